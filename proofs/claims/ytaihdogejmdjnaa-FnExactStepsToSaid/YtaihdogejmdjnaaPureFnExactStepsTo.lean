/- FnExactStepsTo answers true for each two numbers. No condition beyond the row's own bounds. -/
import Derived.Test.YtaihdogejmdjnaaPFnExactStepsTox1
namespace Go.Proofs.Ytaihdogejmdjnaa.Pure
open Go.RowKit Go.Proofs.Ytaihdogejmdjnaa.PFnExactStepsTo Go.Proofs.YtaihdogejmdjnaaW.PrintWords Go.Proofs.YtaihdogejmdjnaaW.PrintLast
set_option linter.unusedVariables false
set_option linter.unusedSimpArgs false

theorem FnExactStepsTo : laws_FnExactStepsTo.Pure := by
  intro a b ha hb
  unfold laws_FnExactStepsTo.f spec_StepsTo.f impl_StepsTo.f spec_l5Seq.f impl_isSeq.f spec_l1In.f impl_in.f spec_l5Steps.f impl_stepsTo.f
  by_cases h0 : 0 ≤ a
  · by_cases h1 : a ≤ 63
    · by_cases h2 : 0 ≤ b
      · by_cases h3 : b ≤ 63
        · simp [h0, h1, h2, h3]
        · simp [h0, h1, h2, h3]
      · simp [h0, h1, h2]
    · simp [h0, h1]
  · simp [h0]

end Go.Proofs.Ytaihdogejmdjnaa.Pure
