/- FnExactIsWhole answers true for each text. No condition beyond the row's own bounds. -/
import Derived.Test.YtmagnbbpbhmacaaPFnExactIsWholex1
namespace Go.Proofs.Ytmagnbbpbhmacaa.Pure
open Go.RowKit Go.Proofs.Ytmagnbbpbhmacaa.PFnExactIsWhole Go.Proofs.YtmagnbbpbhmacaaW.PrintWords Go.Proofs.YtmagnbbpbhmacaaW.PrintLast
set_option linter.unusedVariables false
set_option linter.unusedSimpArgs false

-- w64
theorem w64 {x : Int} (h0 : -9223372036854775808 ≤ x) (h1 : x ≤ 9223372036854775807) : wrap64 x = x := by
  unfold wrap64
  omega
theorem tm {x y : Int} (h0 : 0 ≤ x) : Int.tmod x y = x % y := Int.tmod_eq_emod_of_nonneg h0
theorem wf64 {x : Int} (h : (Lit.int .i64 x).wf = true) : -9223372036854775808 ≤ x ∧ x ≤ 9223372036854775807 := by
  simp [Lit.wf, IntKind.min, IntKind.max, IntKind.signed, IntKind.bits] at h
  omega

-- sums
/-- The sum of the first i bytes, the weighted sum with weight n - j, and the sum of the sums. -/
def sA (s : ByteArray) : Nat → Int
  | 0 => 0
  | i + 1 => sA s i + bt s i
def sW (s : ByteArray) (n : Int) : Nat → Int
  | 0 => 0
  | i + 1 => sW s n i + bt s i * (n - i)
def sB (s : ByteArray) : Nat → Int
  | 0 => 0
  | i + 1 => sB s i + sA s (i + 1)
theorem sA_bd (s : ByteArray) : ∀ i : Nat, 0 ≤ sA s i ∧ sA s i ≤ 255 * i
  | 0 => by simp [sA]
  | i + 1 => by
    have := sA_bd s i
    have := bt_range s i
    simp only [sA]
    omega
theorem sW_bd (s : ByteArray) (n : Int) (hn : n ≤ 200) : ∀ i : Nat, (i : Int) ≤ n → 0 ≤ sW s n i ∧ sW s n i ≤ 51000 * i
  | 0, _ => by simp [sW]
  | i + 1, h => by
    have h1 := sW_bd s n hn i (by omega)
    have h2 := bt_range s i
    have h3 : 0 ≤ bt s i * (n - i) := Int.mul_nonneg h2.1 (by omega)
    have h4 : bt s i * (n - i) ≤ 255 * 200 := Int.mul_le_mul h2.2 (by omega) (by omega) (by omega)
    simp only [sW]
    omega
theorem sB_sW (s : ByteArray) (n : Int) : ∀ i : Nat, sB s i + (n - i) * sA s i = sW s n i
  | 0 => by simp [sA, sB, sW]
  | i + 1 => by
    have h := sB_sW s n i
    simp only [sB, sW, sA]
    have e : (n - ((i + 1 : Nat) : Int)) * (sA s i + bt s i) = (n - i) * sA s i + bt s i * (n - i) - (sA s i + bt s i) := by
      have : (n - ((i + 1 : Nat) : Int)) = (n - i) - 1 := by omega
      rw [this, Int.sub_mul, Int.mul_add, Int.one_mul, Int.mul_comm (bt s i)]
    rw [e]
    omega
theorem spec_sums_l (s : ByteArray) (d : Nat) : ∀ (k i : Nat), i + d = s.size → d < k → s.size ≤ 140737488351232 →
    spec_l1Sums.l0 k s (sA s i % 255) (sB s i % 255) i = some (sA s s.size % 255, sB s s.size % 255) := by
  induction d with
  | zero =>
    intro k i h hk hs
    obtain ⟨k, rfl⟩ : ∃ m, k = m + 1 := ⟨k - 1, by omega⟩
    simp only [spec_l1Sums.l0]
    rw [if_neg (by omega)]
    obtain rfl : i = s.size := by omega
    rfl
  | succ d ih =>
    intro k i h hk hs
    obtain ⟨k, rfl⟩ : ∃ m, k = m + 1 := ⟨k - 1, by omega⟩
    have hb := bt_range s i
    have h1 := ih k (i + 1) (by omega) (by omega) hs
    simp only [spec_l1Sums.l0]
    rw [if_pos (by omega), if_pos (by omega)]
    rw [w64 (x := bt s i) (by omega) (by omega), w64 (x := sA s i % 255 + bt s i) (by omega) (by omega), tm (by omega),
      w64 (x := sB s i % 255 + (sA s i % 255 + bt s i) % 255) (by omega) (by omega), tm (by omega), w64 (x := (i : Int) + 1) (by omega) (by omega)]
    have e1 : (sA s i % 255 + bt s i) % 255 = sA s (i + 1) % 255 := by simp only [sA]; omega
    have e2 : (sB s i % 255 + sA s (i + 1) % 255) % 255 = sB s (i + 1) % 255 := by simp only [sB]; omega
    rw [e1, e2]
    exact h1
theorem spec_sums (s : ByteArray) (k : Nat) (hk : s.size < k) (hs : s.size ≤ 140737488351232) :
    spec_l1Sums.f k s = some (sA s s.size % 255, sB s s.size % 255) := by
  have h := spec_sums_l s s.size k 0 (by omega) hk hs
  unfold spec_l1Sums.f
  simpa [sA, sB] using h
theorem impl_sums_l (s : ByteArray) (d : Nat) : ∀ (k i : Nat), i + d = s.size → d < k → s.size ≤ 200 →
    impl_sums.l0 k s (sA s i) (sW s s.size i) s.size i = some (sA s s.size % 255, sW s s.size s.size % 255) := by
  induction d with
  | zero =>
    intro k i h hk hs
    obtain ⟨k, rfl⟩ : ∃ m, k = m + 1 := ⟨k - 1, by omega⟩
    simp only [impl_sums.l0]
    rw [if_neg (by omega)]
    obtain rfl : i = s.size := by omega
    have := sA_bd s s.size
    have := sW_bd s s.size (by omega) s.size (by omega)
    rw [tm (by omega), tm (by omega)]
  | succ d ih =>
    intro k i h hk hs
    obtain ⟨k, rfl⟩ : ∃ m, k = m + 1 := ⟨k - 1, by omega⟩
    have hb := bt_range s i
    have h1 := ih k (i + 1) (by omega) (by omega) hs
    have ha := sA_bd s i
    have hw := sW_bd s s.size (by omega) i (by omega)
    have h3 : 0 ≤ bt s i * ((s.size : Int) - i) := Int.mul_nonneg hb.1 (by omega)
    have h4 : bt s i * ((s.size : Int) - i) ≤ 255 * 200 := Int.mul_le_mul hb.2 (by omega) (by omega) (by omega)
    simp only [impl_sums.l0]
    rw [if_pos (by omega), if_pos (by omega), if_pos (by omega)]
    rw [w64 (x := bt s i) (by omega) (by omega), w64 (x := sA s i + bt s i) (by omega) (by omega), w64 (x := (s.size : Int) - i) (by omega) (by omega),
      w64 (x := bt s i * ((s.size : Int) - i)) (by omega) (by omega), w64 (x := sW s s.size i + bt s i * ((s.size : Int) - i)) (by omega) (by omega), w64 (x := (i : Int) + 1) (by omega) (by omega)]
    exact h1
theorem impl_sums_f (s : ByteArray) (k : Nat) (hk : s.size < k) (hs : s.size ≤ 200) :
    impl_sums.f k s = some (sA s s.size % 255, sB s s.size % 255) := by
  have h := impl_sums_l s s.size k 0 (by omega) hk hs
  have e := sB_sW s s.size s.size
  have e2 : ((s.size : Int) - s.size) * sA s s.size = 0 := by rw [Int.sub_self, Int.zero_mul]
  unfold impl_sums.f
  rw [show sB s s.size = sW s s.size s.size by omega]
  simpa [sA, sW] using h

theorem FnExactIsWhole : laws_FnExactIsWhole.Pure := by
  intro s hs
  refine ⟨s.size + 1, ?_⟩
  unfold laws_FnExactIsWhole.f spec_IsWhole.f impl_IsWhole.f impl_SumOf.f spec_l1Long.f
  by_cases h0 : (s.size : Int) > 1048576
  · rw [if_pos h0]
  · rw [if_neg h0, spec_sums s _ (by omega) hs]
    by_cases h1 : s.size ≤ 200
    · rw [impl_sums_f s _ (by omega) h1]
      by_cases h2 : sA s s.size % 255 = 0
      · simp [show (s.size : Int) ≤ 200 by omega, show ¬ (200 : Int) < s.size by omega, h2]
      · simp [show (s.size : Int) ≤ 200 by omega, show ¬ (200 : Int) < s.size by omega, h2]
    · simp [show ¬ (s.size : Int) ≤ 200 by omega, show (200 : Int) < s.size by omega]

end Go.Proofs.Ytmagnbbpbhmacaa.Pure
