/- FnExactGoodItem answers true for each item. No condition beyond the row's own bounds. -/
import Derived.Test.YtaihdogejmdjnaaSFnExactGoodItem
namespace Go.Proofs.Ytaihdogejmdjnaa.Pure
open Go.RowKit Go.Proofs.Ytaihdogejmdjnaa.PFnExactGoodItem Go.Proofs.YtaihdogejmdjnaaW.PrintWords Go.Proofs.YtaihdogejmdjnaaW.PrintLast
set_option linter.unusedVariables false
set_option linter.unusedSimpArgs false

-- w64
theorem w64 {x : Int} (h0 : -9223372036854775808 ≤ x) (h1 : x ≤ 9223372036854775807) : wrap64 x = x := by
  unfold wrap64
  omega
theorem tm {x y : Int} (h0 : 0 ≤ x) : Int.tmod x y = x % y := Int.tmod_eq_emod_of_nonneg h0
theorem wf64 {x : Int} (h : (Lit.int .i64 x).wf = true) : -9223372036854775808 ≤ x ∧ x ≤ 9223372036854775807 := by
  simp [Lit.wf, IntKind.min, IntKind.max, IntKind.signed, IntKind.bits] at h
  omega

-- gooditem
theorem good_one (a b c : Int) (t : ByteArray) : ∃ r, spec_GoodItem.f a b c t = some r ∧ impl_GoodItem.f a b c t = some r := by
  have e : impl_GoodItem.f a b c t = spec_GoodItem.f a b c t := by
    unfold impl_GoodItem.f spec_GoodItem.f impl_isSeq.f spec_l5Seq.f impl_in.f spec_l1In.f
    rfl
  rw [e]
  unfold spec_GoodItem.f spec_l5Seq.f spec_l1In.f
  by_cases h0 : 1 ≤ a
  · by_cases h1 : a ≤ 1000
    · by_cases h2 : 0 ≤ b
      · by_cases h3 : b ≤ 63
        · by_cases h4 : 0 ≤ c
          · by_cases h5 : c ≤ 20
            · by_cases h6 : (t.size : Int) ≤ 20
              · by_cases h7 : 0 < c
                · exact ⟨true, by simp [h0, h1, h2, h3, h4, h5, h6, h7], by simp [h0, h1, h2, h3, h4, h5, h6, h7]⟩
                · exact ⟨_, by simp [h0, h1, h2, h3, h4, h5, h6, h7]; rfl, by simp [h0, h1, h2, h3, h4, h5, h6, h7]⟩
              · exact ⟨false, by simp [h0, h1, h2, h3, h4, h5, h6], by simp [h0, h1, h2, h3, h4, h5, h6]⟩
            · exact ⟨false, by simp [h0, h1, h2, h3, h4, h5], by simp [h0, h1, h2, h3, h4, h5]⟩
          · exact ⟨false, by simp [h0, h1, h2, h3, h4], by simp [h0, h1, h2, h3, h4]⟩
        · exact ⟨false, by simp [h0, h1, h2, h3], by simp [h0, h1, h2, h3]⟩
      · exact ⟨false, by simp [h0, h1, h2], by simp [h0, h1, h2]⟩
    · exact ⟨false, by simp [h0, h1], by simp [h0, h1]⟩
  · exact ⟨false, by simp [h0], by simp [h0]⟩

theorem FnExactGoodItem : laws_FnExactGoodItem.PureS := by
  intro a b c t _ _ _ ht
  obtain ⟨r, e1, e2⟩ := good_one a b c t
  unfold laws_FnExactGoodItem.f laws_szItem.f laws_toItem.f
  rw [w64 (by omega) (by omega)]
  by_cases h : 1048576 - (t.size : Int) < 0
  · rw [if_pos h]
    simp
  · rw [if_neg h]
    simp only [Option.bind_some]
    rw [if_neg h, e1, e2]
    simp

end Go.Proofs.Ytaihdogejmdjnaa.Pure
