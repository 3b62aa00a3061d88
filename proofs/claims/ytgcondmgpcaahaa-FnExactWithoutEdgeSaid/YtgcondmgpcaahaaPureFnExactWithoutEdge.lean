/- FnExactWithoutEdge answers true for each number of spots, each list of edges and each place. No condition beyond the row's own bounds. -/
import Derived.Test.YtgcondmgpcaahaaSFnExactWithoutEdge
namespace Go.Proofs.Ytgcondmgpcaahaa.Pure
open Go.RowKit Go.Proofs.Ytgcondmgpcaahaa.PFnExactWithoutEdge Go.Proofs.YtgcondmgpcaahaaW.PrintWords Go.Proofs.YtgcondmgpcaahaaW.PrintLast
set_option linter.unusedVariables false
set_option linter.unusedSimpArgs false

-- w64
theorem w64 {x : Int} (h0 : -9223372036854775808 ≤ x) (h1 : x ≤ 9223372036854775807) : wrap64 x = x := by
  unfold wrap64
  omega
theorem tm {x y : Int} (h0 : 0 ≤ x) : Int.tmod x y = x % y := Int.tmod_eq_emod_of_nonneg h0
theorem wf64 {x : Int} (h : (Lit.int .i64 x).wf = true) : -9223372036854775808 ≤ x ∧ x ≤ 9223372036854775807 := by
  simp [Lit.wf, IntKind.min, IntKind.max, IntKind.signed, IntKind.bits] at h
  omega

-- helps
theorem set_take {α : Type} (m L : List α) (i : Nat) (hi : i < L.length) (hm : m.length = L.length) (ht : m.take i = L.take i) (v : α) (hv : L[i]? = some v) : (m.set i v).take (i + 1) = L.take (i + 1) := by
  rw [List.take_set, List.take_succ_eq_append_getElem (by omega), List.take_succ_eq_append_getElem hi, ht, List.set_append_right _ _ (by rw [List.length_take]; omega)]
  rw [List.length_take, show i - min i L.length = 0 by omega]
  rw [List.getElem?_eq_getElem hi] at hv
  rw [Option.some.inj hv]
  rfl
/-- From some number of rounds on: one number for a pair. -/
theorem ev_at {α : Type} {g : Nat → Option α} {r : α} (h : Ev g r) : ∃ K, ∀ k, K ≤ k → g k = some r := h
theorem ev_some {α : Type} {g : Nat → Option α} {r : α} (h : ∀ k, g k = some r) : Ev g r := ⟨0, fun k _ => h k⟩
theorem ev_ge {α : Type} {g : Nat → Option α} {r : α} (K : Nat) (h : ∀ k, K ≤ k → g k = some r) : Ev g r := ⟨K, h⟩

-- rdt(83)
theorem rd_T83_at (l : List S83) (i : Nat) (h : i < l.length) : rd_T83 l i = l[i] := by
  simp [rd_T83, List.getD_eq_getElem?_getD, List.getElem?_eq_getElem h]

-- inrange(spec_l1In)
theorem spec_l1In_eq (a lo hi : Int) : spec_l1In.f a lo hi = some (decide (lo ≤ a ∧ a ≤ hi)) := by
  unfold spec_l1In.f
  by_cases h : lo ≤ a
  · rw [if_pos (show a ≥ lo from h)]
    simp [h]
  · rw [if_neg (show ¬ a ≥ lo from h)]
    simp [h]

-- goode(83)
theorem in_same (a b c : Int) : impl_in.f a b c = spec_l1In.f a b c := rfl
def okE (s : Int) (x : S83) : Bool := decide (0 ≤ x.f0 ∧ x.f0 ≤ s) && (decide (0 ≤ x.f1 ∧ x.f1 ≤ s) && (decide (x.f0 < x.f1) && decide (1 ≤ x.f2 ∧ x.f2 ≤ 100)))
def lexE (p : Option S83) (x : S83) : Bool := match p with | none => true | some p => decide (p.f0 < x.f0 ∨ p.f0 = x.f0 ∧ p.f1 < x.f1)
/-- Edges that rise behind one. -/
def upE (s : Int) (p : Option S83) : List S83 → Bool
  | [] => true
  | x :: r => okE s x && (lexE p x && upE s (some x) r)
def goodE (s : Int) (l : List S83) : Bool := upE (wrap64 (s - 1)) none l && (decide (1 ≤ s ∧ s ≤ 12) && decide (l.length ≤ 40))
def beforeE (l : List S83) : Nat → Option S83
  | 0 => none
  | i + 1 => some (rd_T83 l i)
theorem drop_E (l : List S83) (i : Nat) (h : i < l.length) : l.drop i = rd_T83 l i :: l.drop (i + 1) := by
  rw [rd_T83_at l i h]
  exact List.drop_eq_getElem_cons h
theorem wi (i : Nat) (h : i ≤ 4611686018427387904) : wrap64 ((i : Int) + 1) = ((i + 1 : Nat) : Int) := by
  rw [w64 (by omega) (by omega)]
  omega
theorem spec_goodE_l (s : Int) (l : List S83) (hn : l.length ≤ 2305843009213693952) (d : Nat) : ∀ (k i : Nat), i + d = l.length → d + d < k →
    spec_GoodEdges.l0 k s l l l.length i = some (upE (wrap64 (s - 1)) (beforeE l i) (l.drop i) && (decide (1 ≤ s ∧ s ≤ 12) && decide (l.length ≤ 40))) := by
  induction d with
  | zero =>
    intro k i h hk
    obtain ⟨k, rfl⟩ : ∃ m, k = m + 1 := ⟨k - 1, by omega⟩
    simp only [spec_GoodEdges.l0]
    rw [if_neg (by omega), List.drop_of_length_le (by omega), spec_l1In_eq]
    simp only [upE, Bool.true_and, Option.bind_some]
    rw [show decide (l.length ≤ 40) = decide ((l.length : Int) ≤ 40) from by rw [decide_eq_decide]; omega]
    cases decide (1 ≤ s ∧ s ≤ 12) <;> simp
  | succ d ih =>
    intro k i h hk
    obtain ⟨k, rfl⟩ : ∃ m, k = m + 2 := ⟨k - 2, by omega⟩
    have ih := ih k (i + 1) (by omega) (by omega)
    rw [drop_E l i (by omega)]
    simp only [spec_GoodEdges.l0]
    rw [if_pos (by omega), if_pos (by omega), if_pos (by omega), spec_l1In_eq, spec_l1In_eq, spec_l1In_eq]
    simp only [Option.bind_some, upE, okE]
    cases h1 : decide (0 ≤ (rd_T83 l i).f0 ∧ (rd_T83 l i).f0 ≤ wrap64 (s - 1))
    · simp [spec_GoodEdges.j1]
    · cases h2 : decide (0 ≤ (rd_T83 l i).f1 ∧ (rd_T83 l i).f1 ≤ wrap64 (s - 1))
      · simp [spec_GoodEdges.j1]
      · by_cases h3 : (rd_T83 l i).f0 < (rd_T83 l i).f1
        · simp only [if_true]
          rw [if_neg (by omega), decide_eq_true h3]
          cases h4 : decide (1 ≤ (rd_T83 l i).f2 ∧ (rd_T83 l i).f2 ≤ 100)
          · simp [spec_GoodEdges.j1]
          · simp only [spec_GoodEdges.j1, Bool.not_true, Bool.false_eq_true, if_false, Bool.true_and, wi i (by omega)]
            cases i with
            | zero =>
              rw [if_neg (by omega), ih]
              rfl
            | succ i =>
              rw [if_pos (by omega), w64 (x := ((i + 1 : Nat) : Int) - 1) (by omega) (by omega), show ((i + 1 : Nat) : Int) - 1 = (i : Int) by omega, if_pos (by omega), if_pos (by omega), ih]
              simp only [beforeE]
              by_cases c1 : (rd_T83 l i).f0 > (rd_T83 l ((i + 1 : Nat) : Int)).f0
              · rw [if_pos c1, show lexE (some (rd_T83 l (i : Int))) (rd_T83 l ((i + 1 : Nat) : Int)) = false from decide_eq_false (by omega)]
                simp
              · rw [if_neg c1]
                by_cases c2 : (rd_T83 l i).f0 = (rd_T83 l ((i + 1 : Nat) : Int)).f0
                · rw [if_pos c2]
                  by_cases c3 : (rd_T83 l i).f1 ≥ (rd_T83 l ((i + 1 : Nat) : Int)).f1
                  · rw [if_pos c3, show lexE (some (rd_T83 l (i : Int))) (rd_T83 l ((i + 1 : Nat) : Int)) = false from decide_eq_false (by omega)]
                    simp
                  · rw [if_neg c3, show lexE (some (rd_T83 l (i : Int))) (rd_T83 l ((i + 1 : Nat) : Int)) = true from decide_eq_true (by omega)]
                    simp
                · rw [if_neg c2, show lexE (some (rd_T83 l (i : Int))) (rd_T83 l ((i + 1 : Nat) : Int)) = true from decide_eq_true (by omega)]
                  simp
        · simp only [if_true]
          rw [if_pos (by omega), decide_eq_false h3]
          simp [spec_GoodEdges.j1]
theorem spec_goodE (s : Int) (l : List S83) (k : Nat) (hn : l.length ≤ 2305843009213693952) (hk : l.length + l.length < k) : spec_GoodEdges.f k s l = some (goodE s l) := by
  have h := spec_goodE_l s l hn l.length k 0 (by omega) hk
  rw [List.drop_zero] at h
  exact h
theorem impl_goodE_l (s : Int) (l : List S83) (hn : l.length ≤ 2305843009213693952) (hw : ∀ x ∈ l, (x.f0 ≤ 9223372036854775807) ∧ x.f1 ≤ 9223372036854775807) (d : Nat) : ∀ (k i : Nat), i + d = l.length → d < k → (∀ p, beforeE l i = some p → 0 ≤ p.f0 ∧ 0 ≤ p.f1) →
    impl_GoodEdges.l0 k s l l l.length i = some (upE (wrap64 (s - 1)) (beforeE l i) (l.drop i) && (decide (1 ≤ s ∧ s ≤ 12) && decide (l.length ≤ 40))) := by
  induction d with
  | zero =>
    intro k i h hk hp
    obtain ⟨k, rfl⟩ : ∃ m, k = m + 1 := ⟨k - 1, by omega⟩
    simp only [impl_GoodEdges.l0, impl_isSpots.f]
    rw [if_neg (by omega), List.drop_of_length_le (by omega), in_same, spec_l1In_eq]
    simp only [upE, Bool.true_and, Option.bind_some]
    rw [show decide (l.length ≤ 40) = decide ((l.length : Int) ≤ 40) from by rw [decide_eq_decide]; omega]
    cases decide (1 ≤ s ∧ s ≤ 12) <;> simp
  | succ d ih =>
    intro k i h hk hp
    obtain ⟨k, rfl⟩ : ∃ m, k = m + 1 := ⟨k - 1, by omega⟩
    have ih := ih k (i + 1) (by omega) (by omega)
    rw [drop_E l i (by omega)]
    simp only [impl_GoodEdges.l0, in_same]
    rw [if_pos (by omega), if_pos (by omega), if_pos (by omega), spec_l1In_eq, spec_l1In_eq, spec_l1In_eq]
    simp only [Option.bind_some, upE, okE]
    by_cases h1 : 0 ≤ (rd_T83 l i).f0 ∧ (rd_T83 l i).f0 ≤ wrap64 (s - 1)
    · by_cases h2 : 0 ≤ (rd_T83 l i).f1 ∧ (rd_T83 l i).f1 ≤ wrap64 (s - 1)
      · rw [decide_eq_true h1, decide_eq_true h2]
        have ih := ih (fun p e => by rw [← Option.some.inj e]; exact ⟨h1.1, h2.1⟩)
        by_cases h3 : (rd_T83 l i).f0 < (rd_T83 l i).f1
        · simp only [if_true]
          rw [if_neg (by omega), decide_eq_true h3]
          cases h4 : decide (1 ≤ (rd_T83 l i).f2 ∧ (rd_T83 l i).f2 ≤ 100)
          · simp
          · simp only [if_true, Bool.true_and, wi i (by omega)]
            cases i with
            | zero =>
              rw [if_neg (by omega), ih]
              rfl
            | succ i =>
              have hp := hp _ rfl
              have m0 : rd_T83 l i ∈ l := by rw [rd_T83_at l i (by omega)]; exact List.getElem_mem _
              have m1 : rd_T83 l ((i + 1 : Nat) : Int) ∈ l := by rw [rd_T83_at l (i + 1) (by omega)]; exact List.getElem_mem _
              have b0 := hw _ m0
              have b1 := hw _ m1
              rw [if_pos (by omega), w64 (x := ((i + 1 : Nat) : Int) - 1) (by omega) (by omega), show ((i + 1 : Nat) : Int) - 1 = (i : Int) by omega, if_pos (by omega), if_pos (by omega)]
              simp only [beforeE, impl_byEnds.f, ih]
              rw [w64 (x := (rd_T83 l i).f1 - (rd_T83 l ((i + 1 : Nat) : Int)).f1) (by omega) (by omega), w64 (x := (rd_T83 l i).f0 - (rd_T83 l ((i + 1 : Nat) : Int)).f0) (by omega) (by omega)]
              by_cases c2 : (rd_T83 l i).f0 = (rd_T83 l ((i + 1 : Nat) : Int)).f0
              · rw [if_pos c2]
                simp only [Option.bind_some]
                by_cases c3 : (rd_T83 l i).f1 ≥ (rd_T83 l ((i + 1 : Nat) : Int)).f1
                · rw [if_pos (by omega), show lexE (some (rd_T83 l (i : Int))) (rd_T83 l ((i + 1 : Nat) : Int)) = false from decide_eq_false (by omega)]
                  simp
                · rw [if_neg (by omega), show lexE (some (rd_T83 l (i : Int))) (rd_T83 l ((i + 1 : Nat) : Int)) = true from decide_eq_true (by omega)]
                  simp
              · rw [if_neg c2]
                simp only [Option.bind_some]
                by_cases c1 : (rd_T83 l i).f0 > (rd_T83 l ((i + 1 : Nat) : Int)).f0
                · rw [if_pos (by omega), show lexE (some (rd_T83 l (i : Int))) (rd_T83 l ((i + 1 : Nat) : Int)) = false from decide_eq_false (by omega)]
                  simp
                · rw [if_neg (by omega), show lexE (some (rd_T83 l (i : Int))) (rd_T83 l ((i + 1 : Nat) : Int)) = true from decide_eq_true (by omega)]
                  simp
        · simp only [if_true]
          rw [if_pos (by omega), decide_eq_false h3]
          simp
      · rw [decide_eq_true h1, decide_eq_false h2]
        simp
    · rw [decide_eq_false h1]
      simp
theorem impl_goodE (s : Int) (l : List S83) (k : Nat) (hn : l.length ≤ 2305843009213693952) (hw : ∀ x ∈ l, (x.f0 ≤ 9223372036854775807) ∧ x.f1 ≤ 9223372036854775807) (hk : l.length < k) : impl_GoodEdges.f k s l = some (goodE s l) := by
  have h := impl_goodE_l s l hn hw l.length k 0 (by omega) hk (fun p e => by cases e)
  rw [List.drop_zero] at h
  exact h

-- without(83)
/-- A list without one of its places. -/
def rem (k : Nat) (l : List S83) : List S83 := l.take k ++ l.drop (k + 1)
theorem rem_snoc (k : Nat) (l : List S83) (x : S83) : rem k (l ++ [x]) = if l.length = k then rem k l else rem k l ++ [x] := by
  unfold rem
  by_cases h : l.length = k
  · rw [if_pos h, List.take_append_of_le_length (by omega), List.drop_of_length_le (by simp; omega), List.drop_of_length_le (by omega)]
  · rw [if_neg h]
    by_cases h2 : l.length < k
    · rw [List.take_of_length_le (by simp; omega), List.take_of_length_le (by omega), List.drop_of_length_le (by simp; omega), List.drop_of_length_le (by omega)]
      simp
    · rw [List.take_append_of_le_length (by omega), List.drop_append_of_le_length (by omega)]
      simp
theorem rem_len (k : Nat) (l : List S83) : (rem k l).length ≤ l.length + l.length := by
  unfold rem
  rw [List.length_append, List.length_take, List.length_drop]
  omega
theorem contains_one (a x : Int) (k : Nat) (hk : 2 ≤ k) : slices_Contains_int_int.f k [a] x = some (decide (x = a)) := by
  obtain ⟨k, rfl⟩ : ∃ m, k = m + 2 := ⟨k - 2, by omega⟩
  have w1 : wrap64 (0 + 1) = 1 := w64 (by omega) (by omega)
  have r0 : rd [a] 0 = a := rfl
  have e : slices_Index_int_int.f (k + 2) [a] x = some (if x = a then 0 else -1) := by
    unfold slices_Index_int_int.f
    simp only [slices_Index_int_int.l0]
    rw [if_pos (show (0 : Int) < ([a].length : Int) from Int.zero_lt_one), if_pos (show (0 : Int) ≤ 0 from Int.le_refl _), if_pos (show (0 : Int) < ([a].length : Int) from Int.zero_lt_one), r0, w1, if_neg (show ¬ (1 : Int) < ([a].length : Int) from Int.lt_irrefl 1)]
    by_cases h : x = a
    · simp only [if_pos h]
    · simp only [if_neg h]
  unfold slices_Contains_int_int.f
  rw [e]
  simp only [Option.bind_some]
  by_cases h : x = a
  · rw [if_pos h, decide_eq_true h, decide_eq_true (by omega)]
  · rw [if_neg h, decide_eq_false h, decide_eq_false (by omega)]
theorem spec_without (l : List S83) (j : Nat) (hj : j < l.length) (hn : l.length ≤ 1000) : spec_l8Without.f l j = some (rem j l) := by
  have a1 : (l.take j).length ≤ l.length := by rw [List.length_take]; omega
  have a2 : (l.drop (j + 1)).length ≤ l.length := by rw [List.length_drop]; omega
  have b1 : ([] : List S83).length + (l.take j).length < 5864062014805 := by rw [List.length_nil]; omega
  have b2 : ([] ++ l.take j : List S83).length + (l.drop (j + 1)).length < 5864062014805 := by rw [List.nil_append]; omega
  have w : wrap64 ((j : Int) + 1) = ((j + 1 : Nat) : Int) := by rw [w64 (by omega) (by omega)]; omega
  have c1 : (0 : Int) ≤ (j : Int) := by omega
  have c2 : (j : Int) ≤ (l.length : Int) := by omega
  have c3 : (0 : Int) ≤ ((j + 1 : Nat) : Int) := by omega
  have c4 : ((j + 1 : Nat) : Int) ≤ (l.length : Int) := by omega
  unfold spec_l8Without.f rem
  rw [Option.bind_some, if_pos c1, if_pos c2, Option.bind_some, Int.toNat_natCast, if_pos b1, Option.bind_some, w, if_pos c3, if_pos c4, Option.bind_some, Int.toNat_natCast, if_pos b2]
  rw [List.nil_append]
theorem impl_without_l (l : List S83) (j : Nat) (hn : l.length ≤ 1000000) (d : Nat) : ∀ (k i : Nat), i + d = l.length → d + 2 < k → impl_without.l0 k [(j : Int)] (rem j (l.take i)) l l.length i = some (rem j l) := by
  induction d with
  | zero =>
    intro k i h hk
    obtain ⟨k, rfl⟩ : ∃ m, k = m + 1 := ⟨k - 1, by omega⟩
    simp only [impl_without.l0]
    rw [if_neg (by omega), List.take_of_length_le (by omega)]
  | succ d ih =>
    intro k i h hk
    obtain ⟨k, rfl⟩ : ∃ m, k = m + 1 := ⟨k - 1, by omega⟩
    have ih := ih k (i + 1) (by omega) (by omega)
    have ht : l.take (i + 1) = l.take i ++ [rd_T83 l i] := by
      rw [rd_T83_at l i (by omega)]
      exact List.take_succ_eq_append_getElem (by omega)
    have hlen : (l.take i).length = i := by rw [List.length_take]; omega
    rw [ht, rem_snoc, hlen] at ih
    have hr := rem_len j (l.take i)
    simp only [impl_without.l0]
    rw [if_pos (by omega), if_pos (by omega), if_pos (by omega), contains_one _ _ _ (by omega), wi _ (by omega)]
    simp only [Option.bind_some]
    by_cases e : i = j
    · rw [if_pos e] at ih
      rw [if_pos (by simp [e]), ih]
    · rw [if_neg e] at ih
      rw [if_neg (by simp; omega), if_pos (by omega)]
      exact ih
theorem impl_without_f (l : List S83) (j : Nat) (hn : l.length ≤ 1000000) (k : Nat) (hk : l.length + 2 < k) : impl_without.f k l [(j : Int)] = some (rem j l) := by
  have h := impl_without_l l j hn l.length k 0 (by omega) hk
  rw [show rem j (l.take 0) = [] by simp [rem]] at h
  exact h
/-- What WithoutEdge tells. -/
def withoutR (s : Int) (l : List S83) (j : Int) : List S83 × Bool := if goodE s l = true ∧ (0 ≤ j ∧ j < l.length) then (rem j.toNat l, true) else ([], false)
theorem goodE_len (s : Int) (l : List S83) (h : goodE s l = true) : l.length ≤ 40 := by
  unfold goodE at h
  simp only [Bool.and_eq_true, decide_eq_true_eq] at h
  exact h.2.2
theorem spec_WithoutEdge_f (s : Int) (l : List S83) (j : Int) (k : Nat) (hn : l.length ≤ 2305843009213693952) (hk : l.length + l.length + 2 < k) : spec_WithoutEdge.f k s l j = some (withoutR s l j) := by
  unfold spec_WithoutEdge.f withoutR
  rw [spec_goodE s l k hn (by omega)]
  simp only [Option.bind_some]
  cases hg : goodE s l
  · simp
  · have h40 := goodE_len s l hg
    rw [if_pos rfl]
    by_cases h1 : j < 0
    · rw [if_pos h1, if_neg (by omega)]
    · rw [if_neg h1]
      by_cases h2 : j ≥ l.length
      · rw [if_pos h2, if_neg (by omega)]
      · rw [if_neg h2, if_pos (by simp; omega)]
        obtain ⟨m, rfl⟩ := Int.eq_ofNat_of_zero_le (show 0 ≤ j by omega)
        rw [spec_without l m (by omega) (by omega)]
        simp
theorem impl_WithoutEdge_f (s : Int) (l : List S83) (j : Int) (k : Nat) (hn : l.length ≤ 2305843009213693952) (hw : ∀ x ∈ l, (x.f0 ≤ 9223372036854775807) ∧ x.f1 ≤ 9223372036854775807) (hk : l.length + l.length + 2 < k) : impl_WithoutEdge.f k s l j = some (withoutR s l j) := by
  unfold impl_WithoutEdge.f withoutR
  rw [impl_goodE s l k hn hw (by omega)]
  simp only [Option.bind_some]
  cases hg : goodE s l
  · simp
  · have h40 := goodE_len s l hg
    rw [if_pos rfl, in_same, spec_l1In_eq, w64 (by omega) (by omega)]
    simp only [Option.bind_some]
    by_cases h1 : 0 ≤ j ∧ j ≤ (l.length : Int) - 1
    · rw [decide_eq_true h1, if_pos rfl, if_pos (by simp; omega)]
      obtain ⟨m, rfl⟩ := Int.eq_ofNat_of_zero_le (show 0 ≤ j by omega)
      rw [impl_without_f l m (by omega) k (by omega)]
      rfl
    · rw [decide_eq_false h1, if_neg (by decide), if_neg (by omega)]

-- rdt(85)
theorem rd_T85_at (l : List S85) (i : Nat) (h : i < l.length) : rd_T85 l i = l[i] := by
  simp [rd_T85, List.getD_eq_getElem?_getD, List.getElem?_eq_getElem h]

-- tos(85;83;laws_toEdgeS;laws_toEdge;⟨x.f0, x.f1, x.f2⟩;5864062014805)
def cv85 (x : S85) : S83 := ⟨x.f0, x.f1, x.f2⟩
theorem laws_toEdgeS_l (l : List S85) (hn : l.length ≤ 4611686018427387904) (d : Nat) : ∀ (k i : Nat) (m : List S83), i + d = l.length → m.length = l.length → m.take i = (l.map cv85).take i → d < k →
    laws_toEdgeS.l0 k l m i = some (l.map cv85) := by
  induction d with
  | zero =>
    intro k i m h hm ht hk
    obtain ⟨k, rfl⟩ : ∃ m, k = m + 1 := ⟨k - 1, by omega⟩
    simp only [laws_toEdgeS.l0]
    rw [if_neg (by omega)]
    rw [List.take_of_length_le (by omega), List.take_of_length_le (by rw [List.length_map]; omega)] at ht
    rw [ht]
  | succ d ih =>
    intro k i m h hm ht hk
    obtain ⟨k, rfl⟩ : ∃ m, k = m + 1 := ⟨k - 1, by omega⟩
    simp only [laws_toEdgeS.l0, laws_toEdge.f, Option.bind_some]
    rw [if_pos (by omega), if_pos (by omega), if_pos (by omega), w64 (by omega) (by omega), show ((i : Int) + 1) = ((i + 1 : Nat) : Int) by omega]
    refine ih k (i + 1) _ (by omega) (by rw [List.length_set]; exact hm) ?_ (by omega)
    rw [Int.toNat_natCast]
    exact set_take _ _ i (by rw [List.length_map]; omega) (by rw [List.length_map]; exact hm) ht _ (by rw [List.getElem?_map, List.getElem?_eq_getElem (by omega), rd_T85_at l i (by omega)]; rfl)
theorem laws_toEdgeS_eq (l : List S85) (k : Nat) (hn : l.length ≤ 5864062014805) (hk : l.length < k) : laws_toEdgeS.f k l = some (l.map cv85) := by
  unfold laws_toEdgeS.f
  rw [if_pos (by omega), if_pos (by omega)]
  exact laws_toEdgeS_l l (by omega) l.length k 0 _ (by omega) (by simp) (by simp) hk

-- eqs(83;laws_eqEdgeS;laws_eqEdge)
theorem laws_eqEdgeS_l (l : List S83) (hn : l.length ≤ 4611686018427387904) (d : Nat) : ∀ (k i : Nat), i + d = l.length → d < k → laws_eqEdgeS.l0 k l l i = some true := by
  induction d with
  | zero =>
    intro k i h hk
    obtain ⟨k, rfl⟩ : ∃ m, k = m + 1 := ⟨k - 1, by omega⟩
    simp only [laws_eqEdgeS.l0]
    rw [if_neg (by omega)]
  | succ d ih =>
    intro k i h hk
    obtain ⟨k, rfl⟩ : ∃ m, k = m + 1 := ⟨k - 1, by omega⟩
    have h1 := ih k (i + 1) (by omega) (by omega)
    simp only [laws_eqEdgeS.l0]
    rw [if_pos (by omega), if_pos (by omega), if_pos (by omega), w64 (by omega) (by omega), show ((i : Int) + 1) = ((i + 1 : Nat) : Int) by omega, h1]
    unfold laws_eqEdge.f
    simp
theorem laws_eqEdgeS_refl (l : List S83) (k : Nat) (hn : l.length ≤ 4611686018427387904) (hk : l.length < k) : laws_eqEdgeS.f k l l = some true := by
  unfold laws_eqEdgeS.f
  rw [if_pos rfl]
  exact laws_eqEdgeS_l l hn l.length k 0 (by omega) hk

-- marks(83;laws_markEdgeS;laws_heldEdgeS;⟨m, m + 1, m + 1 + 1⟩;3;m + 3 * (i : Int) + 1 + 1 + 1)
def el83 (m : Int) : S83 := ⟨m, m + 1, m + 1 + 1⟩
/-- What a marked list of so many holds. -/
def mk83 (m : Int) (n : Nat) : List S83 := (List.range n).map fun i : Nat => el83 (m + 3 * (i : Int))
theorem mk83_len (m : Int) (n : Nat) : (mk83 m n).length = n := by simp [mk83]
theorem rd_T83_set (l : List S83) (i : Nat) (v : S83) (h : i < l.length) : rd_T83 (l.set (i : Int).toNat v) (i : Int) = v := by
  simp [rd_T83, List.getD_eq_getElem?_getD, h]
theorem set_set83 (l : List S83) (i : Int) (a b : S83) : (l.set i.toNat a).set i.toNat b = l.set i.toNat b := by rw [List.set_set]
theorem laws_markEdgeS_l (m : Int) (n : Nat) (hm : 0 ≤ m ∧ m ≤ 1152921504606846976) (hn : n ≤ 35184372088832) (d : Nat) : ∀ (k i : Nat) (l : List S83), i + d = n → l.length = n → d < k → l.take i = (mk83 m n).take i →
    laws_markEdgeS.l0 k l (m + 3 * (i : Int)) i = some (m + 3 * (n : Int), mk83 m n) := by
  have hw : ∀ x : Int, 0 ≤ x → x ≤ 2305843009213693952 → wrap64 (x + 1) = x + 1 := fun x h0 h1 => w64 (by omega) (by omega)
  induction d with
  | zero =>
    intro k i l h hl hk ht
    obtain ⟨k, rfl⟩ : ∃ m, k = m + 1 := ⟨k - 1, by omega⟩
    simp only [laws_markEdgeS.l0]
    rw [if_neg (by omega)]
    rw [List.take_of_length_le (by omega), List.take_of_length_le (by rw [mk83_len]; omega)] at ht
    rw [ht, show i = n by omega]
  | succ d ih =>
    intro k i l h hl hk ht
    obtain ⟨k, rfl⟩ : ∃ m, k = m + 1 := ⟨k - 1, by omega⟩
    have hi : i < l.length := by omega
    simp only [laws_markEdgeS.l0]
    rw [if_pos (by omega), if_pos (by omega)]
    simp only [Option.bind_some, rd_T83_set l i _ hi, set_set83]
    simp (disch := omega) only [hw]
    have h1 := ih k (i + 1) (l.set (i : Int).toNat (el83 (m + 3 * (i : Int)))) (by omega) (by rw [List.length_set]; exact hl) (by omega) (by
      rw [Int.toNat_natCast]
      exact set_take _ _ i (by rw [mk83_len]; omega) (by rw [mk83_len]; exact hl) ht _ (by simp [mk83, show i < n by omega]))
    rw [show m + 3 * (i : Int) + 1 + 1 + 1 = m + 3 * ((i + 1 : Nat) : Int) by omega, show (i : Int) + 1 = ((i + 1 : Nat) : Int) by omega]
    exact h1
theorem laws_markEdgeS_eq (l : List S83) (m : Int) (k : Nat) (hm : 0 ≤ m ∧ m ≤ 1152921504606846976) (hn : l.length ≤ 35184372088832) (hk : l.length < k) : laws_markEdgeS.f k l m = some (m + 3 * (l.length : Int), mk83 m l.length) := by
  have h := laws_markEdgeS_l m l.length hm hn l.length k 0 l (by omega) rfl hk (by simp)
  simp only [Int.natCast_zero, show ((0 : Nat) : Int) = 0 from rfl, Int.mul_zero, Int.add_zero] at h
  exact h
theorem laws_heldEdgeS_l (m : Int) (n : Nat) (hm : 0 ≤ m ∧ m ≤ 1152921504606846976) (hn : n ≤ 35184372088832) (d : Nat) : ∀ (k i : Nat), i + d = n → d < k →
    laws_heldEdgeS.l0 k (mk83 m n) (m + 3 * (i : Int)) i = some (m + 3 * (n : Int)) := by
  have hw : ∀ x : Int, 0 ≤ x → x ≤ 2305843009213693952 → wrap64 (x + 1) = x + 1 := fun x h0 h1 => w64 (by omega) (by omega)
  induction d with
  | zero =>
    intro k i h hk
    obtain ⟨k, rfl⟩ : ∃ m, k = m + 1 := ⟨k - 1, by omega⟩
    simp only [laws_heldEdgeS.l0]
    rw [if_neg (by rw [mk83_len]; omega), show i = n by omega]
  | succ d ih =>
    intro k i h hk
    obtain ⟨k, rfl⟩ : ∃ m, k = m + 1 := ⟨k - 1, by omega⟩
    have hr : rd_T83 (mk83 m n) i = el83 (m + 3 * (i : Int)) := by
      rw [rd_T83_at _ i (by rw [mk83_len]; omega)]
      simp [mk83]
    simp only [laws_heldEdgeS.l0]
    rw [if_pos (by rw [mk83_len]; omega), if_pos (by omega), hr]
    simp (disch := omega) only [hw]
    have h1 := ih k (i + 1) (by omega) (by omega)
    rw [show m + 3 * (i : Int) + 1 + 1 + 1 = m + 3 * ((i + 1 : Nat) : Int) by omega, show (i : Int) + 1 = ((i + 1 : Nat) : Int) by omega, h1]
    simp [el83]
theorem laws_heldEdgeS_eq (m : Int) (n k : Nat) (hm : 0 ≤ m ∧ m ≤ 1152921504606846976) (hn : n ≤ 35184372088832) (hk : n < k) : laws_heldEdgeS.f k (mk83 m n) m = some (m + 3 * (n : Int)) := by
  have h := laws_heldEdgeS_l m n hm hn n k 0 (by omega) hk
  simp only [Int.natCast_zero, show ((0 : Nat) : Int) = 0 from rfl, Int.mul_zero, Int.add_zero] at h
  exact h

theorem FnExactWithoutEdge : laws_FnExactWithoutEdge.PureS := by
  intro s l j _ ⟨hn, hl⟩ _
  obtain ⟨K, hK⟩ : ∃ K, K = l.length + l.length + 19 := ⟨_, rfl⟩
  refine ⟨K, ?_⟩
  have hm : (l.map cv85).length = l.length := List.length_map _
  have ht := fun k hk => laws_toEdgeS_eq l k (by omega) hk
  have hw : ∀ x ∈ l.map cv85, (x.f0 ≤ 9223372036854775807) ∧ x.f1 ≤ 9223372036854775807 := by
    intro x hx
    obtain ⟨y, hy, rfl⟩ := List.mem_map.1 hx
    obtain ⟨h0, h1, _⟩ := hl y hy
    exact ⟨(wf64 h0).2, (wf64 h1).2⟩
  have es := fun k hk => spec_WithoutEdge_f s (l.map cv85) j k (by omega) hk
  have ei := fun k hk => impl_WithoutEdge_f s (l.map cv85) j k (by omega) hw hk
  obtain ⟨r, hr, hrl⟩ : ∃ r, withoutR s (l.map cv85) j = r ∧ r.1.length ≤ l.length + l.length := by
    refine ⟨_, rfl, ?_⟩
    unfold withoutR
    split
    · have := rem_len j.toNat (l.map cv85)
      simp only
      omega
    · simp
  rw [hr] at es ei
  unfold laws_FnExactWithoutEdge.f laws_szEdgeS.f
  rw [w64 (by omega) (by omega)]
  by_cases h0 : 1048576 - (l.length : Int) < 0
  · rw [if_pos h0]
    simp
  · rw [if_neg h0]
    simp only [Option.bind_some]
    rw [if_neg h0, ht K (by omega)]
    simp only [Option.bind_some]
    rw [es K (by omega), ei K (by omega)]
    simp only [Option.bind_some]
    rw [laws_eqEdgeS_refl r.1 K (by omega) (by omega)]
    simp only [Option.bind_some, if_true, bne_self_eq_false]
    obtain ⟨K, rfl⟩ : ∃ m, K = m + 3 := ⟨K - 3, by omega⟩
    simp only [laws_FnExactWithoutEdge.j0, Bool.false_eq_true, if_false]
    rw [ht (K + 2) (by omega)]
    simp only [Option.bind_some]
    rw [laws_eqEdgeS_refl _ (K + 2) (by omega) (by omega)]
    simp only [Option.bind_some, if_true]
    rw [laws_markEdgeS_eq _ 1 (K + 2) (by omega) (by omega) (by omega)]
    simp only [Option.bind_some]
    rw [if_neg (by omega), laws_eqEdgeS_refl r.1 (K + 2) (by omega) (by omega)]
    simp only [Option.bind_some, if_true, bne_self_eq_false]
    simp only [laws_FnExactWithoutEdge.j1, Bool.false_eq_true, if_false]
    rw [laws_markEdgeS_eq r.1 1 (K + 1) (by omega) (by omega) (by omega)]
    simp only [Option.bind_some]
    rw [laws_heldEdgeS_eq 1 _ (K + 1) (by omega) (by omega) (by omega)]
    simp only [Option.bind_some, if_true]
    rw [if_neg (by omega), ht (K + 1) (by omega)]
    simp only [Option.bind_some]
    rw [ei (K + 1) (by omega)]
    simp only [Option.bind_some]
    rw [laws_eqEdgeS_refl r.1 (K + 1) (by omega) (by omega)]
    simp only [Option.bind_some, if_true, bne_self_eq_false]
    simp only [laws_FnExactWithoutEdge.j2, Bool.false_eq_true, if_false]
    rw [laws_heldEdgeS_eq 1 _ K (by omega) (by omega) (by omega)]
    simp only [Option.bind_some, if_true]
    rw [if_neg (by omega)]

end Go.Proofs.Ytgcondmgpcaahaa.Pure
