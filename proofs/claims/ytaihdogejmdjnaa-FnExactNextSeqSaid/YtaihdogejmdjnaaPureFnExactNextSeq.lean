/- FnExactNextSeq answers true for each number. No condition beyond the row's own bounds. -/
import Derived.Test.YtaihdogejmdjnaaPFnExactNextSeqx1
namespace Go.Proofs.Ytaihdogejmdjnaa.Pure
open Go.RowKit Go.Proofs.Ytaihdogejmdjnaa.PFnExactNextSeq Go.Proofs.YtaihdogejmdjnaaW.PrintWords Go.Proofs.YtaihdogejmdjnaaW.PrintLast
set_option linter.unusedVariables false
set_option linter.unusedSimpArgs false

theorem FnExactNextSeq : laws_FnExactNextSeq.Pure := by
  intro a ha
  unfold laws_FnExactNextSeq.f spec_NextSeq.f impl_NextSeq.f spec_l5Seq.f impl_isSeq.f spec_l1In.f impl_in.f
  by_cases h0 : 0 ≤ a
  · by_cases h1 : a ≤ 63
    · simp [h0, h1]
    · simp [h0, h1]
  · simp [h0]

end Go.Proofs.Ytaihdogejmdjnaa.Pure
