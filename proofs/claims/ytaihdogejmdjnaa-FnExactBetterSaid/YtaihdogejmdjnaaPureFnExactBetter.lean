/- FnExactBetter answers true for each two items. No condition beyond the row's own bounds. -/
import Derived.Test.YtaihdogejmdjnaaSFnExactBetter
namespace Go.Proofs.Ytaihdogejmdjnaa.Pure
open Go.RowKit Go.Proofs.Ytaihdogejmdjnaa.PFnExactBetter Go.Proofs.YtaihdogejmdjnaaW.PrintWords Go.Proofs.YtaihdogejmdjnaaW.PrintLast
set_option linter.unusedVariables false
set_option linter.unusedSimpArgs false

-- w64
theorem w64 {x : Int} (h0 : -9223372036854775808 ≤ x) (h1 : x ≤ 9223372036854775807) : wrap64 x = x := by
  unfold wrap64
  omega
theorem tm {x y : Int} (h0 : 0 ≤ x) : Int.tmod x y = x % y := Int.tmod_eq_emod_of_nonneg h0
theorem wf64 {x : Int} (h : (Lit.int .i64 x).wf = true) : -9223372036854775808 ≤ x ∧ x ≤ 9223372036854775807 := by
  simp [Lit.wf, IntKind.min, IntKind.max, IntKind.signed, IntKind.bits] at h
  omega

-- gooditem
theorem good_one (a b c : Int) (t : ByteArray) : ∃ r, spec_GoodItem.f a b c t = some r ∧ impl_GoodItem.f a b c t = some r := by
  have e : impl_GoodItem.f a b c t = spec_GoodItem.f a b c t := by
    unfold impl_GoodItem.f spec_GoodItem.f impl_isSeq.f spec_l5Seq.f impl_in.f spec_l1In.f
    rfl
  rw [e]
  unfold spec_GoodItem.f spec_l5Seq.f spec_l1In.f
  by_cases h0 : 1 ≤ a
  · by_cases h1 : a ≤ 1000
    · by_cases h2 : 0 ≤ b
      · by_cases h3 : b ≤ 63
        · by_cases h4 : 0 ≤ c
          · by_cases h5 : c ≤ 20
            · by_cases h6 : (t.size : Int) ≤ 20
              · by_cases h7 : 0 < c
                · exact ⟨true, by simp [h0, h1, h2, h3, h4, h5, h6, h7], by simp [h0, h1, h2, h3, h4, h5, h6, h7]⟩
                · exact ⟨_, by simp [h0, h1, h2, h3, h4, h5, h6, h7]; rfl, by simp [h0, h1, h2, h3, h4, h5, h6, h7]⟩
              · exact ⟨false, by simp [h0, h1, h2, h3, h4, h5, h6], by simp [h0, h1, h2, h3, h4, h5, h6]⟩
            · exact ⟨false, by simp [h0, h1, h2, h3, h4, h5], by simp [h0, h1, h2, h3, h4, h5]⟩
          · exact ⟨false, by simp [h0, h1, h2, h3, h4], by simp [h0, h1, h2, h3, h4]⟩
        · exact ⟨false, by simp [h0, h1, h2, h3], by simp [h0, h1, h2, h3]⟩
      · exact ⟨false, by simp [h0, h1, h2], by simp [h0, h1, h2]⟩
    · exact ⟨false, by simp [h0, h1], by simp [h0, h1]⟩
  · exact ⟨false, by simp [h0], by simp [h0]⟩

-- helps
theorem set_take {α : Type} (m L : List α) (i : Nat) (hi : i < L.length) (hm : m.length = L.length) (ht : m.take i = L.take i) (v : α) (hv : L[i]? = some v) : (m.set i v).take (i + 1) = L.take (i + 1) := by
  rw [List.take_set, List.take_succ_eq_append_getElem (by omega), List.take_succ_eq_append_getElem hi, ht, List.set_append_right _ _ (by rw [List.length_take]; omega)]
  rw [List.length_take, show i - min i L.length = 0 by omega]
  rw [List.getElem?_eq_getElem hi] at hv
  rw [Option.some.inj hv]
  rfl
/-- From some number of rounds on: one number for a pair. -/
theorem ev_at {α : Type} {g : Nat → Option α} {r : α} (h : Ev g r) : ∃ K, ∀ k, K ≤ k → g k = some r := h
theorem ev_some {α : Type} {g : Nat → Option α} {r : α} (h : ∀ k, g k = some r) : Ev g r := ⟨0, fun k _ => h k⟩
theorem ev_ge {α : Type} {g : Nat → Option α} {r : α} (K : Nat) (h : ∀ k, K ≤ k → g k = some r) : Ev g r := ⟨K, h⟩

-- newer
/-- Is a newer than b, by the code's own sum. -/
def nw (a b : Int) : Bool := decide (1 ≤ Int.tmod (wrap64 ((wrap64 (a - b)) + 64)) 64 ∧ Int.tmod (wrap64 ((wrap64 (a - b)) + 64)) 64 ≤ 31)
theorem spec_newer (a b : Int) : spec_l5Newer.f a b = some (nw a b) := by
  unfold spec_l5Newer.f spec_l5Steps.f spec_l1In.f nw
  simp only [Option.bind_some, ge_iff_le]
  by_cases h : 1 ≤ Int.tmod (wrap64 ((wrap64 (a - b)) + 64)) 64
  · simp [h]
  · simp [h]
theorem impl_newer (a b : Int) : impl_isNewer.f a b = some (nw a b) := by
  unfold impl_isNewer.f impl_stepsTo.f impl_in.f nw
  simp only [Option.bind_some, ge_iff_le]
  by_cases h : 1 ≤ Int.tmod (wrap64 ((wrap64 (a - b)) + 64)) 64
  · simp [h]
  · simp [h]
theorem nw_self (a : Int) : nw a a = false := by
  unfold nw
  rw [Int.sub_self, w64 (x := 0) (by omega) (by omega), w64 (by omega) (by omega)]
  decide
theorem nw_eq (a b : Int) (ha : 0 ≤ a ∧ a ≤ 63) (hb : 0 ≤ b ∧ b ≤ 63) : nw a b = decide (1 ≤ (a - b + 64) % 64 ∧ (a - b + 64) % 64 ≤ 31) := by
  unfold nw
  rw [w64 (x := a - b) (by omega) (by omega), w64 (by omega) (by omega), tm (by omega)]
theorem nw_anti (a b : Int) (ha : 0 ≤ a ∧ a ≤ 63) (hb : 0 ≤ b ∧ b ≤ 63) (h : nw a b = true) : nw b a = false := by
  rw [nw_eq _ _ ha hb] at h
  rw [nw_eq _ _ hb ha]
  simp at h ⊢
  omega

-- better
/-- Which of two items is better. -/
def bt2 (s1 a1 : Int) (t1 : ByteArray) (s2 a2 : Int) (t2 : ByteArray) : Int :=
  if nw s1 s2 = true then 1 else if nw s2 s1 = true then 2 else if s1 = s2 then (if a1 = 0 ∧ ¬ a2 = 0 then 1 else if a2 = 0 ∧ ¬ a1 = 0 then 2 else if t1.toList = t2.toList then 0 else 3) else 3
theorem spec_better (k : Nat) (hk : 3 ≤ k) (f1 s1 a1 : Int) (t1 : ByteArray) (f2 s2 a2 : Int) (t2 : ByteArray) : spec_l5Better.f k f1 s1 a1 t1 f2 s2 a2 t2 = some (bt2 s1 a1 t1 s2 a2 t2) := by
  obtain ⟨k, rfl⟩ : ∃ m, k = m + 3 := ⟨k - 3, by omega⟩
  unfold spec_l5Better.f bt2
  rw [spec_newer, spec_newer]
  simp only [Option.bind_some]
  by_cases h1 : nw s1 s2 = true
  · simp [h1]
  · by_cases h2 : nw s2 s1 = true
    · simp [h1, h2]
    · by_cases h3 : s1 = s2
      · by_cases h4 : a1 = 0
        · by_cases h5 : a2 = 0
          · by_cases h6 : t1.toList = t2.toList
            · simp [h1, h2, h3, h4, h5, h6, spec_l5Better.j0, spec_l5Better.j1, nw_self]
            · simp [h1, h2, h3, h4, h5, h6, spec_l5Better.j0, spec_l5Better.j1, nw_self]
          · simp [h1, h2, h3, h4, h5, spec_l5Better.j0, spec_l5Better.j1, nw_self]
        · by_cases h5 : a2 = 0
          · simp [h1, h2, h3, h4, h5, spec_l5Better.j0, spec_l5Better.j1, nw_self]
          · by_cases h6 : t1.toList = t2.toList
            · simp [h1, h2, h3, h4, h5, h6, spec_l5Better.j0, spec_l5Better.j1, nw_self]
            · simp [h1, h2, h3, h4, h5, h6, spec_l5Better.j0, spec_l5Better.j1, nw_self]
      · simp [h1, h2, h3]
theorem impl_better_f (k : Nat) (hk : 3 ≤ k) (f1 s1 a1 : Int) (t1 : ByteArray) (f2 s2 a2 : Int) (t2 : ByteArray) : impl_better.f k f1 s1 a1 t1 f2 s2 a2 t2 = some (bt2 s1 a1 t1 s2 a2 t2) := by
  obtain ⟨k, rfl⟩ : ∃ m, k = m + 3 := ⟨k - 3, by omega⟩
  unfold impl_better.f bt2
  by_cases h3 : s1 = s2
  · subst h3
    have h1 := nw_self s1
    by_cases h4 : a1 = 0
    · by_cases h5 : a2 = 0
      · by_cases h6 : t1.toList = t2.toList
        · simp [impl_better.j0, impl_newer, h1, h4, h5, h6]
        · simp [impl_better.j0, impl_better.j1, impl_newer, h1, h4, h5, h6]
      · by_cases h6 : t1.toList = t2.toList
        · simp [impl_better.j0, impl_better.j1, impl_newer, h1, h4, h5, h6]
        · simp [impl_better.j0, impl_better.j1, impl_newer, h1, h4, h5, h6]
    · have e4 : (a1 == 0) = false := beq_eq_false_iff_ne.2 h4
      by_cases h5 : a2 = 0
      · by_cases h6 : t1.toList = t2.toList
        · simp [impl_better.j0, impl_better.j1, impl_newer, h1, h4, h5, h6, e4]
        · simp [impl_better.j0, impl_better.j1, impl_newer, h1, h4, h5, h6, e4]
      · have e5 : (a2 == 0) = false := beq_eq_false_iff_ne.2 h5
        by_cases h6 : t1.toList = t2.toList
        · simp [impl_better.j0, impl_better.j1, impl_newer, h1, h4, h5, h6, e4, e5]
        · simp [impl_better.j0, impl_better.j1, impl_newer, h1, h4, h5, h6, e4, e5]
  · by_cases h1 : nw s1 s2 = true
    · simp [impl_better.j0, impl_better.j1, impl_newer, h1, h3]
    · by_cases h2 : nw s2 s1 = true
      · simp [impl_better.j0, impl_better.j1, impl_newer, h1, h2, h3]
      · simp [impl_better.j0, impl_better.j1, impl_newer, h1, h2, h3]

theorem both_better (k : Nat) (hk : 3 ≤ k) (f1 s1 a1 : Int) (t1 : ByteArray) (f2 s2 a2 : Int) (t2 : ByteArray) : ∃ r, spec_Better.f k f1 s1 a1 t1 f2 s2 a2 t2 = some r ∧ impl_Better.f k f1 s1 a1 t1 f2 s2 a2 t2 = some r := by
  obtain ⟨r1, e1, e2⟩ := good_one f1 s1 a1 t1
  obtain ⟨r2, e3, e4⟩ := good_one f2 s2 a2 t2
  have b1 := spec_better k hk f1 s1 a1 t1 f2 s2 a2 t2
  have b2 := impl_better_f k hk f1 s1 a1 t1 f2 s2 a2 t2
  unfold spec_Better.f impl_Better.f
  rw [e1, e2, e3, e4, b1, b2]
  cases r1
  · exact ⟨_, rfl, rfl⟩
  · cases r2
    · exact ⟨_, rfl, rfl⟩
    · simp only [Option.bind_some, if_true]
      by_cases h : f1 = f2
      · simp only [if_pos h]
        exact ⟨_, rfl, rfl⟩
      · simp only [if_neg h]
        exact ⟨_, rfl, rfl⟩
theorem FnExactBetter : laws_FnExactBetter.PureS := by
  intro f1 s1 a1 t1 f2 s2 a2 t2 _ _ _ ht1 _ _ _ ht2
  refine ⟨3, ?_⟩
  obtain ⟨r, e1, e2⟩ := both_better 3 (by omega) f1 s1 a1 t1 f2 s2 a2 t2
  unfold laws_FnExactBetter.f laws_szItem.f laws_toItem.f
  rw [w64 (x := 1048576 - (t1.size : Int)) (by omega) (by omega)]
  by_cases h : 1048576 - (t1.size : Int) < 0
  · rw [if_pos h]
    simp
  · rw [if_neg h]
    simp only [Option.bind_some]
    rw [if_neg h, w64 (x := 1048576 - (t1.size : Int) - (t2.size : Int)) (by omega) (by omega)]
    by_cases h2 : 1048576 - (t1.size : Int) - (t2.size : Int) < 0
    · rw [if_pos h2]
      simp
    · rw [if_neg h2]
      simp only [Option.bind_some]
      rw [if_neg h2, e1, e2]
      simp

end Go.Proofs.Ytaihdogejmdjnaa.Pure
