/- FnExactWeightAt answers true for each text and each place. No condition beyond the row's own bounds. -/
import Derived.Test.YtmagnbbpbhmacaaPFnExactWeightAtx1
namespace Go.Proofs.Ytmagnbbpbhmacaa.Pure
open Go.RowKit Go.Proofs.Ytmagnbbpbhmacaa.PFnExactWeightAt Go.Proofs.YtmagnbbpbhmacaaW.PrintWords Go.Proofs.YtmagnbbpbhmacaaW.PrintLast
set_option linter.unusedVariables false
set_option linter.unusedSimpArgs false

-- w64
theorem w64 {x : Int} (h0 : -9223372036854775808 ≤ x) (h1 : x ≤ 9223372036854775807) : wrap64 x = x := by
  unfold wrap64
  omega
theorem tm {x y : Int} (h0 : 0 ≤ x) : Int.tmod x y = x % y := Int.tmod_eq_emod_of_nonneg h0
theorem wf64 {x : Int} (h : (Lit.int .i64 x).wf = true) : -9223372036854775808 ≤ x ∧ x ≤ 9223372036854775807 := by
  simp [Lit.wf, IntKind.min, IntKind.max, IntKind.signed, IntKind.bits] at h
  omega

theorem FnExactWeightAt : laws_FnExactWeightAt.Pure := by
  intro s i hs hi
  have hi := wf64 hi
  unfold laws_FnExactWeightAt.f spec_WeightAt.f impl_WeightAt.f spec_l1Long.f impl_within.f
  by_cases h0 : (s.size : Int) > 1048576
  · rw [if_pos h0]
  · rw [if_neg h0]
    by_cases h1 : (s.size : Int) ≤ 200
    · by_cases h2 : i < 0
      · simp [h1, h2, show ¬ i ≥ 0 by omega]
      · by_cases h3 : i < (s.size : Int)
        · have e : wrap64 (i + 1) = i + 1 := w64 (by omega) (by omega)
          simp [h1, h2, h3, show ¬ (s.size : Int) ≤ i by omega, show i ≥ 0 by omega, e, show i + 1 ≤ (s.size : Int) by omega]
        · simp [h1, h2, h3, show (s.size : Int) ≤ i by omega]
    · simp [h1]

end Go.Proofs.Ytmagnbbpbhmacaa.Pure
