/- FnExactIsNewer answers true for each two numbers. No condition beyond the row's own bounds. -/
import Derived.Test.YtaihdogejmdjnaaPFnExactIsNewerx1
namespace Go.Proofs.Ytaihdogejmdjnaa.Pure
open Go.RowKit Go.Proofs.Ytaihdogejmdjnaa.PFnExactIsNewer Go.Proofs.YtaihdogejmdjnaaW.PrintWords Go.Proofs.YtaihdogejmdjnaaW.PrintLast
set_option linter.unusedVariables false
set_option linter.unusedSimpArgs false

theorem newer_one (a b : Int) : ∃ r, spec_l5Newer.f a b = some r ∧ impl_isNewer.f a b = some r := by
  unfold spec_l5Newer.f impl_isNewer.f spec_l5Steps.f impl_stepsTo.f spec_l1In.f impl_in.f
  simp only [Option.bind_some]
  split
  · exact ⟨_, rfl, rfl⟩
  · exact ⟨_, rfl, rfl⟩
theorem FnExactIsNewer : laws_FnExactIsNewer.Pure := by
  intro a b ha hb
  obtain ⟨r, e1, e2⟩ := newer_one a b
  unfold laws_FnExactIsNewer.f spec_IsNewer.f impl_IsNewer.f spec_l5Seq.f impl_isSeq.f
  rw [e1, e2]
  unfold spec_l1In.f impl_in.f
  by_cases h0 : 0 ≤ a
  · by_cases h1 : a ≤ 63
    · by_cases h2 : 0 ≤ b
      · by_cases h3 : b ≤ 63
        · simp [h0, h1, h2, h3]
        · simp [h0, h1, h2, h3]
      · simp [h0, h1, h2]
    · simp [h0, h1]
  · simp [h0]

end Go.Proofs.Ytaihdogejmdjnaa.Pure
