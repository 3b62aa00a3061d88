/- FnExactAgeItem answers true for each item and each number. No condition beyond the row's own bounds. -/
import Derived.Test.YtaihdogejmdjnaaSFnExactAgeItem
namespace Go.Proofs.Ytaihdogejmdjnaa.Pure
open Go.RowKit Go.Proofs.Ytaihdogejmdjnaa.PFnExactAgeItem Go.Proofs.YtaihdogejmdjnaaW.PrintWords Go.Proofs.YtaihdogejmdjnaaW.PrintLast
set_option linter.unusedVariables false
set_option linter.unusedSimpArgs false

-- w64
theorem w64 {x : Int} (h0 : -9223372036854775808 ≤ x) (h1 : x ≤ 9223372036854775807) : wrap64 x = x := by
  unfold wrap64
  omega
theorem tm {x y : Int} (h0 : 0 ≤ x) : Int.tmod x y = x % y := Int.tmod_eq_emod_of_nonneg h0
theorem wf64 {x : Int} (h : (Lit.int .i64 x).wf = true) : -9223372036854775808 ≤ x ∧ x ≤ 9223372036854775807 := by
  simp [Lit.wf, IntKind.min, IntKind.max, IntKind.signed, IntKind.bits] at h
  omega

-- gooditem
theorem good_one (a b c : Int) (t : ByteArray) : ∃ r, spec_GoodItem.f a b c t = some r ∧ impl_GoodItem.f a b c t = some r := by
  have e : impl_GoodItem.f a b c t = spec_GoodItem.f a b c t := by
    unfold impl_GoodItem.f spec_GoodItem.f impl_isSeq.f spec_l5Seq.f impl_in.f spec_l1In.f
    rfl
  rw [e]
  unfold spec_GoodItem.f spec_l5Seq.f spec_l1In.f
  by_cases h0 : 1 ≤ a
  · by_cases h1 : a ≤ 1000
    · by_cases h2 : 0 ≤ b
      · by_cases h3 : b ≤ 63
        · by_cases h4 : 0 ≤ c
          · by_cases h5 : c ≤ 20
            · by_cases h6 : (t.size : Int) ≤ 20
              · by_cases h7 : 0 < c
                · exact ⟨true, by simp [h0, h1, h2, h3, h4, h5, h6, h7], by simp [h0, h1, h2, h3, h4, h5, h6, h7]⟩
                · exact ⟨_, by simp [h0, h1, h2, h3, h4, h5, h6, h7]; rfl, by simp [h0, h1, h2, h3, h4, h5, h6, h7]⟩
              · exact ⟨false, by simp [h0, h1, h2, h3, h4, h5, h6], by simp [h0, h1, h2, h3, h4, h5, h6]⟩
            · exact ⟨false, by simp [h0, h1, h2, h3, h4, h5], by simp [h0, h1, h2, h3, h4, h5]⟩
          · exact ⟨false, by simp [h0, h1, h2, h3, h4], by simp [h0, h1, h2, h3, h4]⟩
        · exact ⟨false, by simp [h0, h1, h2, h3], by simp [h0, h1, h2, h3]⟩
      · exact ⟨false, by simp [h0, h1, h2], by simp [h0, h1, h2]⟩
    · exact ⟨false, by simp [h0, h1], by simp [h0, h1]⟩
  · exact ⟨false, by simp [h0], by simp [h0]⟩

-- goodage
theorem good_age (f s a : Int) (t : ByteArray) (h : spec_GoodItem.f f s a t = some true) : (0 ≤ a ∧ a ≤ 20) ∧ (0 ≤ s ∧ s ≤ 63) := by
  unfold spec_GoodItem.f spec_l5Seq.f spec_l1In.f at h
  simp only [ge_iff_le] at h
  by_cases h0 : 1 ≤ f
  · by_cases h1 : f ≤ 1000
    · by_cases h2 : 0 ≤ s
      · by_cases h3 : s ≤ 63
        · by_cases h4 : 0 ≤ a
          · by_cases h5 : a ≤ 20
            · exact ⟨⟨h4, h5⟩, h2, h3⟩
            · simp [h0, h1, h2, h3, h4, h5] at h
          · simp [h0, h1, h2, h3, h4] at h
        · simp [h0, h1, h2, h3] at h
      · simp [h0, h1, h2] at h
    · simp [h0, h1] at h
  · simp [h0] at h

theorem both_age (k : Nat) (hk : 2 ≤ k) (f s a : Int) (t : ByteArray) (n : Int) : ∃ r, spec_AgeItem.f k f s a t n = some r ∧ impl_AgeItem.f k f s a t n = some r := by
  obtain ⟨k, rfl⟩ : ∃ m, k = m + 1 := ⟨k - 1, by omega⟩
  obtain ⟨r1, e1, e2⟩ := good_one f s a t
  unfold spec_AgeItem.f impl_AgeItem.f
  rw [e1, e2]
  cases hr : r1
  · exact ⟨_, rfl, rfl⟩
  · subst hr
    have hg := good_age f s a t e1
    simp only [Option.bind_some, if_true]
    unfold spec_l1In.f impl_in.f
    by_cases h0 : 0 ≤ n
    · by_cases h1 : n ≤ 100
      · simp only [ge_iff_le, if_pos h0, decide_eq_true h1, Option.bind_some, spec_AgeItem.j0, impl_AgeItem.j0, Bool.not_true, Bool.false_eq_true, if_false]
        rw [w64 (x := a - n) (by omega) (by omega)]
        by_cases h2 : a ≤ n
        · rw [if_pos h2, show mx 0 (a - n) = 0 by unfold mx; omega, if_pos rfl]
          exact ⟨_, rfl, rfl⟩
        · rw [if_neg h2, show mx 0 (a - n) = a - n by unfold mx; omega, if_neg (by omega)]
          exact ⟨_, rfl, rfl⟩
      · simp only [ge_iff_le, if_pos h0, decide_eq_false h1, Option.bind_some, spec_AgeItem.j0, impl_AgeItem.j0, Bool.not_false, if_true]
        exact ⟨_, rfl, rfl⟩
    · simp only [ge_iff_le, if_neg h0, Option.bind_some, spec_AgeItem.j0, impl_AgeItem.j0, Bool.not_false, if_true]
      exact ⟨_, rfl, rfl⟩
theorem FnExactAgeItem : laws_FnExactAgeItem.PureS := by
  intro f s a t n _ _ _ ht _
  refine ⟨3, ?_⟩
  obtain ⟨r, e1, e2⟩ := both_age 3 (by omega) f s a t n
  unfold laws_FnExactAgeItem.f laws_szItem.f laws_toItem.f
  rw [w64 (x := 1048576 - (t.size : Int)) (by omega) (by omega)]
  by_cases h : 1048576 - (t.size : Int) < 0
  · rw [if_pos h]
    simp
  · rw [if_neg h]
    simp only [Option.bind_some]
    rw [if_neg h, e1, e2]
    unfold laws_eqItem.f
    simp

end Go.Proofs.Ytaihdogejmdjnaa.Pure
