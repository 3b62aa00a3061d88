/- FnExactAddSums answers true for all five numbers. No condition beyond the row's own bounds. -/
import Derived.Test.YtmagnbbpbhmacaaPFnExactAddSumsx1
namespace Go.Proofs.Ytmagnbbpbhmacaa.Pure
open Go.RowKit Go.Proofs.Ytmagnbbpbhmacaa.PFnExactAddSums Go.Proofs.YtmagnbbpbhmacaaW.PrintWords Go.Proofs.YtmagnbbpbhmacaaW.PrintLast
set_option linter.unusedVariables false
set_option linter.unusedSimpArgs false

-- w64
theorem w64 {x : Int} (h0 : -9223372036854775808 ≤ x) (h1 : x ≤ 9223372036854775807) : wrap64 x = x := by
  unfold wrap64
  omega
theorem tm {x y : Int} (h0 : 0 ≤ x) : Int.tmod x y = x % y := Int.tmod_eq_emod_of_nonneg h0
theorem wf64 {x : Int} (h : (Lit.int .i64 x).wf = true) : -9223372036854775808 ≤ x ∧ x ≤ 9223372036854775807 := by
  simp [Lit.wf, IntKind.min, IntKind.max, IntKind.signed, IntKind.bits] at h
  omega

-- all4
theorem all4 (a b c d : Int) : spec_l1All.f 5 ([a, b, c, d] : List Int) 0 254 = some (decide ((0 ≤ a ∧ a ≤ 254) ∧ (0 ≤ b ∧ b ≤ 254) ∧ (0 ≤ c ∧ c ≤ 254) ∧ (0 ≤ d ∧ d ≤ 254))) := by
  unfold spec_l1All.f
  have w1 : wrap64 (0 + 1) = 1 := w64 (by omega) (by omega)
  have w2 : wrap64 (1 + 1) = 2 := w64 (by omega) (by omega)
  have w3 : wrap64 (2 + 1) = 3 := w64 (by omega) (by omega)
  have w4 : wrap64 (3 + 1) = 4 := w64 (by omega) (by omega)
  have r0 : rd [a, b, c, d] 0 = a := rfl
  have r1 : rd [a, b, c, d] 1 = b := rfl
  have r2 : rd [a, b, c, d] 2 = c := rfl
  have r3 : rd [a, b, c, d] 3 = d := rfl
  simp only [spec_l1All.l0, spec_l1In.f, w1, w2, w3, w4, r0, r1, r2, r3, List.length_cons, List.length_nil]
  by_cases a0 : 0 ≤ a
  · by_cases a1 : a ≤ 254
    · by_cases b0 : 0 ≤ b
      · by_cases b1 : b ≤ 254
        · by_cases c0 : 0 ≤ c
          · by_cases c1 : c ≤ 254
            · by_cases d0 : 0 ≤ d
              · by_cases d1 : d ≤ 254
                · simp [a0, a1, b0, b1, c0, c1, d0, d1]
                · simp [a0, a1, b0, b1, c0, c1, d0, d1]
              · simp [a0, a1, b0, b1, c0, c1, d0]
            · simp [a0, a1, b0, b1, c0, c1]
          · simp [a0, a1, b0, b1, c0]
        · simp [a0, a1, b0, b1]
      · simp [a0, a1, b0]
    · simp [a0, a1]
  · simp [a0]

theorem FnExactAddSums : laws_FnExactAddSums.Pure := by
  intro a b c d e ha hb hc hd he
  refine ⟨5, ?_⟩
  have ha := wf64 ha
  have hb := wf64 hb
  have hc := wf64 hc
  have hd := wf64 hd
  have he := wf64 he
  unfold laws_FnExactAddSums.f spec_AddSums.f impl_AddSums.f
  rw [all4]
  unfold spec_l1In.f impl_in.f
  by_cases h : (0 ≤ a ∧ a ≤ 254) ∧ (0 ≤ b ∧ b ≤ 254) ∧ (0 ≤ c ∧ c ≤ 254) ∧ (0 ≤ d ∧ d ≤ 254)
  · obtain ⟨⟨a0, a1⟩, ⟨b0, b1⟩, ⟨c0, c1⟩, d0, d1⟩ := h
    by_cases h2 : 0 ≤ e ∧ e ≤ 200
    · obtain ⟨e0, e1⟩ := h2
      have m0 : 0 ≤ e * a := Int.mul_nonneg e0 a0
      have m1 : e * a ≤ 200 * 254 := Int.mul_le_mul e1 a1 a0 (by omega)
      have t1 : wrap64 (wrap64 (b + d) + wrap64 (e * a)) = b + d + e * a := by rw [w64 (x := b + d) (by omega) (by omega), w64 (x := e * a) (by omega) (by omega), w64 (by omega) (by omega)]
      have t2 : wrap64 (wrap64 (b + wrap64 (a * e)) + d) = b + d + e * a := by
        rw [Int.mul_comm a e, w64 (x := e * a) (by omega) (by omega), w64 (x := b + e * a) (by omega) (by omega), w64 (by omega) (by omega)]
        omega
      simp [a0, a1, b0, b1, c0, c1, d0, d1, e0, e1, t1, t2]
    · by_cases e0 : 0 ≤ e
      · simp [a0, a1, b0, b1, c0, c1, d0, d1, e0, show ¬ e ≤ 200 by omega]
      · simp [a0, a1, b0, b1, c0, c1, d0, d1, e0]
  · rw [decide_eq_false h]
    simp only [Option.bind_some, Bool.false_eq_true, if_false, ge_iff_le]
    by_cases a0 : 0 ≤ a
    · by_cases a1 : a ≤ 254
      · by_cases b0 : 0 ≤ b
        · by_cases b1 : b ≤ 254
          · by_cases c0 : 0 ≤ c
            · by_cases c1 : c ≤ 254
              · by_cases d0 : 0 ≤ d
                · by_cases d1 : d ≤ 254
                  · exact absurd ⟨⟨a0, a1⟩, ⟨b0, b1⟩, ⟨c0, c1⟩, d0, d1⟩ h
                  · simp [a0, a1, b0, b1, c0, c1, d0, d1]
                · simp [a0, a1, b0, b1, c0, c1, d0]
              · simp [a0, a1, b0, b1, c0, c1]
            · simp [a0, a1, b0, b1, c0]
          · simp [a0, a1, b0, b1]
        · simp [a0, a1, b0]
      · simp [a0, a1]
    · simp [a0]

end Go.Proofs.Ytmagnbbpbhmacaa.Pure
