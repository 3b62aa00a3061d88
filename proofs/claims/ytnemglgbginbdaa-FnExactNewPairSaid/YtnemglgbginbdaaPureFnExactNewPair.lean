/- FnExactNewPair answers true for each number. No condition beyond the row's own bounds. -/
import Derived.Test.YtnemglgbginbdaaPFnExactNewPairx3
namespace Go.Proofs.Ytnemglgbginbdaa.Pure
open Go.RowKit Go.Proofs.Ytnemglgbginbdaa.PFnExactNewPair Go.Proofs.YtnemglgbginbdaaW.PrintWords Go.Proofs.YtnemglgbginbdaaW.PrintLast
set_option linter.unusedVariables false
set_option linter.unusedSimpArgs false

theorem FnExactNewPair : laws_FnExactNewPair.Pure := by
  intro a _
  refine ⟨9, ?_⟩
  by_cases h : 0 ≤ a ∧ a ≤ 3
  · obtain rfl | rfl | rfl | rfl : a = 0 ∨ a = 1 ∨ a = 2 ∨ a = 3 := by omega
    · decide +kernel
    · decide +kernel
    · decide +kernel
    · decide +kernel
  · have e1 : spec_NewPair.f a = some (([] : List Int), ([] : List Int), ([] : List S79), false) := by
      unfold spec_NewPair.f spec_l1In.f
      by_cases h0 : 0 ≤ a
      · simp [h0, show ¬ a ≤ 3 by omega]
      · simp [h0]
    have e2 : impl_NewPair.f a = some (([] : List Int), ([] : List Int), ([] : List S79), false) := by
      unfold impl_NewPair.f impl_in.f
      by_cases h0 : 0 ≤ a
      · simp [h0, show ¬ a ≤ 3 by omega]
      · simp [h0]
    unfold laws_FnExactNewPair.f
    rw [e1, e2]
    have e3 : ∀ k, laws_eqPair.f (k + 1) [] [] [] [] [] [] = some true := fun _ => rfl
    have e4 : ∀ k, laws_markPair.f (k + 1) [] [] [] 1 = some (1, [], [], []) := fun _ => rfl
    have e5 : ∀ k, laws_heldPair.f (k + 1) [] [] [] 1 = some 1 := fun _ => rfl
    simp only [Option.bind_some, e3, if_true, bne_self_eq_false]
    simp only [laws_FnExactNewPair.j0, e2, Option.bind_some, e3, e4, e5, if_true, bne_self_eq_false, Bool.false_eq_true, if_false]
    simp only [laws_FnExactNewPair.j1, e5, Option.bind_some, Bool.false_eq_true, if_false]
    simp

end Go.Proofs.Ytnemglgbginbdaa.Pure
