/- FnExactSkipPart answers true for each text. No condition beyond the row's own bounds. -/
import Derived.Test.YtajfpfmbmkmafaaPFnExactSkipPartx1
namespace Go.Proofs.Ytajfpfmbmkmafaa.Pure
open Go.RowKit Go.Proofs.Ytajfpfmbmkmafaa.PFnExactSkipPart Go.Proofs.YtajfpfmbmkmafaaW.PrintWords Go.Proofs.YtajfpfmbmkmafaaW.PrintLast
set_option linter.unusedVariables false
set_option linter.unusedSimpArgs false

-- w64
theorem w64 {x : Int} (h0 : -9223372036854775808 ≤ x) (h1 : x ≤ 9223372036854775807) : wrap64 x = x := by
  unfold wrap64
  omega
theorem tm {x y : Int} (h0 : 0 ≤ x) : Int.tmod x y = x % y := Int.tmod_eq_emod_of_nonneg h0
theorem wf64 {x : Int} (h : (Lit.int .i64 x).wf = true) : -9223372036854775808 ≤ x ∧ x ≤ 9223372036854775807 := by
  simp [Lit.wf, IntKind.min, IntKind.max, IntKind.signed, IntKind.bits] at h
  omega

theorem FnExactSkipPart : laws_FnExactSkipPart.Pure := by
  intro s hs
  unfold laws_FnExactSkipPart.f spec_SkipPart.f impl_SkipPart.f spec_l1In.f
  have b0 := bt_range s 0
  have b1 := bt_range s 1
  rw [w64 (x := bt s 0) (by omega) (by omega), w64 (x := bt s 1) (by omega) (by omega), w64 (x := (s.size : Int) - 2) (by omega) (by omega), w64 (x := 2 + bt s 1) (by omega) (by omega)]
  by_cases h0 : (s.size : Int) > 1048576
  · rw [if_pos h0]
  · rw [if_neg h0]
    by_cases h1 : (2 : Int) ≤ s.size
    · by_cases h2 : (s.size : Int) ≤ 200
      · rw [if_pos (show (s.size : Int) ≥ 2 from h1), decide_eq_true h2, if_neg (show ¬ (s.size : Int) > 200 by omega), if_neg (show ¬ (s.size : Int) < 2 by omega)]
        simp only [Option.bind_some, if_true]
        rw [if_pos (show (1 : Int) < s.size by omega)]
        by_cases h3 : (s.size : Int) - 2 < bt s 1
        · rw [if_pos (show bt s 1 > (s.size : Int) - 2 from h3)]
          simp
        · rw [if_neg (show ¬ bt s 1 > (s.size : Int) - 2 from h3), if_pos (show (0 : Int) < s.size by omega), if_pos (show (2 : Int) ≤ 2 + bt s 1 by omega), if_pos (show 2 + bt s 1 ≤ (s.size : Int) by omega)]
          simp
      · rw [if_pos (show (s.size : Int) ≥ 2 from h1), decide_eq_false h2, if_pos (show (s.size : Int) > 200 by omega)]
        simp
    · rw [if_neg (show ¬ (s.size : Int) ≥ 2 from h1), if_neg (show ¬ (s.size : Int) > 200 by omega), if_pos (show (s.size : Int) < 2 by omega)]
      simp

end Go.Proofs.Ytajfpfmbmkmafaa.Pure
