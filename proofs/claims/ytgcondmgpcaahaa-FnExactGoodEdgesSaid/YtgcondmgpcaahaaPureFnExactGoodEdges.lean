/- FnExactGoodEdges answers true for each number of spots and each list of edges. No condition beyond the row's own bounds. -/
import Derived.Test.YtgcondmgpcaahaaSFnExactGoodEdges
namespace Go.Proofs.Ytgcondmgpcaahaa.Pure
open Go.RowKit Go.Proofs.Ytgcondmgpcaahaa.PFnExactGoodEdges Go.Proofs.YtgcondmgpcaahaaW.PrintWords Go.Proofs.YtgcondmgpcaahaaW.PrintLast
set_option linter.unusedVariables false
set_option linter.unusedSimpArgs false

-- w64
theorem w64 {x : Int} (h0 : -9223372036854775808 ≤ x) (h1 : x ≤ 9223372036854775807) : wrap64 x = x := by
  unfold wrap64
  omega
theorem tm {x y : Int} (h0 : 0 ≤ x) : Int.tmod x y = x % y := Int.tmod_eq_emod_of_nonneg h0
theorem wf64 {x : Int} (h : (Lit.int .i64 x).wf = true) : -9223372036854775808 ≤ x ∧ x ≤ 9223372036854775807 := by
  simp [Lit.wf, IntKind.min, IntKind.max, IntKind.signed, IntKind.bits] at h
  omega

-- helps
theorem set_take {α : Type} (m L : List α) (i : Nat) (hi : i < L.length) (hm : m.length = L.length) (ht : m.take i = L.take i) (v : α) (hv : L[i]? = some v) : (m.set i v).take (i + 1) = L.take (i + 1) := by
  rw [List.take_set, List.take_succ_eq_append_getElem (by omega), List.take_succ_eq_append_getElem hi, ht, List.set_append_right _ _ (by rw [List.length_take]; omega)]
  rw [List.length_take, show i - min i L.length = 0 by omega]
  rw [List.getElem?_eq_getElem hi] at hv
  rw [Option.some.inj hv]
  rfl
/-- From some number of rounds on: one number for a pair. -/
theorem ev_at {α : Type} {g : Nat → Option α} {r : α} (h : Ev g r) : ∃ K, ∀ k, K ≤ k → g k = some r := h
theorem ev_some {α : Type} {g : Nat → Option α} {r : α} (h : ∀ k, g k = some r) : Ev g r := ⟨0, fun k _ => h k⟩
theorem ev_ge {α : Type} {g : Nat → Option α} {r : α} (K : Nat) (h : ∀ k, K ≤ k → g k = some r) : Ev g r := ⟨K, h⟩

-- rdt(83)
theorem rd_T83_at (l : List S83) (i : Nat) (h : i < l.length) : rd_T83 l i = l[i] := by
  simp [rd_T83, List.getD_eq_getElem?_getD, List.getElem?_eq_getElem h]

-- inrange(spec_l1In)
theorem spec_l1In_eq (a lo hi : Int) : spec_l1In.f a lo hi = some (decide (lo ≤ a ∧ a ≤ hi)) := by
  unfold spec_l1In.f
  by_cases h : lo ≤ a
  · rw [if_pos (show a ≥ lo from h)]
    simp [h]
  · rw [if_neg (show ¬ a ≥ lo from h)]
    simp [h]

-- goode(83)
theorem in_same (a b c : Int) : impl_in.f a b c = spec_l1In.f a b c := rfl
def okE (s : Int) (x : S83) : Bool := decide (0 ≤ x.f0 ∧ x.f0 ≤ s) && (decide (0 ≤ x.f1 ∧ x.f1 ≤ s) && (decide (x.f0 < x.f1) && decide (1 ≤ x.f2 ∧ x.f2 ≤ 100)))
def lexE (p : Option S83) (x : S83) : Bool := match p with | none => true | some p => decide (p.f0 < x.f0 ∨ p.f0 = x.f0 ∧ p.f1 < x.f1)
/-- Edges that rise behind one. -/
def upE (s : Int) (p : Option S83) : List S83 → Bool
  | [] => true
  | x :: r => okE s x && (lexE p x && upE s (some x) r)
def goodE (s : Int) (l : List S83) : Bool := upE (wrap64 (s - 1)) none l && (decide (1 ≤ s ∧ s ≤ 12) && decide (l.length ≤ 40))
def beforeE (l : List S83) : Nat → Option S83
  | 0 => none
  | i + 1 => some (rd_T83 l i)
theorem drop_E (l : List S83) (i : Nat) (h : i < l.length) : l.drop i = rd_T83 l i :: l.drop (i + 1) := by
  rw [rd_T83_at l i h]
  exact List.drop_eq_getElem_cons h
theorem wi (i : Nat) (h : i ≤ 4611686018427387904) : wrap64 ((i : Int) + 1) = ((i + 1 : Nat) : Int) := by
  rw [w64 (by omega) (by omega)]
  omega
theorem spec_goodE_l (s : Int) (l : List S83) (hn : l.length ≤ 2305843009213693952) (d : Nat) : ∀ (k i : Nat), i + d = l.length → d + d < k →
    spec_GoodEdges.l0 k s l l l.length i = some (upE (wrap64 (s - 1)) (beforeE l i) (l.drop i) && (decide (1 ≤ s ∧ s ≤ 12) && decide (l.length ≤ 40))) := by
  induction d with
  | zero =>
    intro k i h hk
    obtain ⟨k, rfl⟩ : ∃ m, k = m + 1 := ⟨k - 1, by omega⟩
    simp only [spec_GoodEdges.l0]
    rw [if_neg (by omega), List.drop_of_length_le (by omega), spec_l1In_eq]
    simp only [upE, Bool.true_and, Option.bind_some]
    rw [show decide (l.length ≤ 40) = decide ((l.length : Int) ≤ 40) from by rw [decide_eq_decide]; omega]
    cases decide (1 ≤ s ∧ s ≤ 12) <;> simp
  | succ d ih =>
    intro k i h hk
    obtain ⟨k, rfl⟩ : ∃ m, k = m + 2 := ⟨k - 2, by omega⟩
    have ih := ih k (i + 1) (by omega) (by omega)
    rw [drop_E l i (by omega)]
    simp only [spec_GoodEdges.l0]
    rw [if_pos (by omega), if_pos (by omega), if_pos (by omega), spec_l1In_eq, spec_l1In_eq, spec_l1In_eq]
    simp only [Option.bind_some, upE, okE]
    cases h1 : decide (0 ≤ (rd_T83 l i).f0 ∧ (rd_T83 l i).f0 ≤ wrap64 (s - 1))
    · simp [spec_GoodEdges.j1]
    · cases h2 : decide (0 ≤ (rd_T83 l i).f1 ∧ (rd_T83 l i).f1 ≤ wrap64 (s - 1))
      · simp [spec_GoodEdges.j1]
      · by_cases h3 : (rd_T83 l i).f0 < (rd_T83 l i).f1
        · simp only [if_true]
          rw [if_neg (by omega), decide_eq_true h3]
          cases h4 : decide (1 ≤ (rd_T83 l i).f2 ∧ (rd_T83 l i).f2 ≤ 100)
          · simp [spec_GoodEdges.j1]
          · simp only [spec_GoodEdges.j1, Bool.not_true, Bool.false_eq_true, if_false, Bool.true_and, wi i (by omega)]
            cases i with
            | zero =>
              rw [if_neg (by omega), ih]
              rfl
            | succ i =>
              rw [if_pos (by omega), w64 (x := ((i + 1 : Nat) : Int) - 1) (by omega) (by omega), show ((i + 1 : Nat) : Int) - 1 = (i : Int) by omega, if_pos (by omega), if_pos (by omega), ih]
              simp only [beforeE]
              by_cases c1 : (rd_T83 l i).f0 > (rd_T83 l ((i + 1 : Nat) : Int)).f0
              · rw [if_pos c1, show lexE (some (rd_T83 l (i : Int))) (rd_T83 l ((i + 1 : Nat) : Int)) = false from decide_eq_false (by omega)]
                simp
              · rw [if_neg c1]
                by_cases c2 : (rd_T83 l i).f0 = (rd_T83 l ((i + 1 : Nat) : Int)).f0
                · rw [if_pos c2]
                  by_cases c3 : (rd_T83 l i).f1 ≥ (rd_T83 l ((i + 1 : Nat) : Int)).f1
                  · rw [if_pos c3, show lexE (some (rd_T83 l (i : Int))) (rd_T83 l ((i + 1 : Nat) : Int)) = false from decide_eq_false (by omega)]
                    simp
                  · rw [if_neg c3, show lexE (some (rd_T83 l (i : Int))) (rd_T83 l ((i + 1 : Nat) : Int)) = true from decide_eq_true (by omega)]
                    simp
                · rw [if_neg c2, show lexE (some (rd_T83 l (i : Int))) (rd_T83 l ((i + 1 : Nat) : Int)) = true from decide_eq_true (by omega)]
                  simp
        · simp only [if_true]
          rw [if_pos (by omega), decide_eq_false h3]
          simp [spec_GoodEdges.j1]
theorem spec_goodE (s : Int) (l : List S83) (k : Nat) (hn : l.length ≤ 2305843009213693952) (hk : l.length + l.length < k) : spec_GoodEdges.f k s l = some (goodE s l) := by
  have h := spec_goodE_l s l hn l.length k 0 (by omega) hk
  rw [List.drop_zero] at h
  exact h
theorem impl_goodE_l (s : Int) (l : List S83) (hn : l.length ≤ 2305843009213693952) (hw : ∀ x ∈ l, (x.f0 ≤ 9223372036854775807) ∧ x.f1 ≤ 9223372036854775807) (d : Nat) : ∀ (k i : Nat), i + d = l.length → d < k → (∀ p, beforeE l i = some p → 0 ≤ p.f0 ∧ 0 ≤ p.f1) →
    impl_GoodEdges.l0 k s l l l.length i = some (upE (wrap64 (s - 1)) (beforeE l i) (l.drop i) && (decide (1 ≤ s ∧ s ≤ 12) && decide (l.length ≤ 40))) := by
  induction d with
  | zero =>
    intro k i h hk hp
    obtain ⟨k, rfl⟩ : ∃ m, k = m + 1 := ⟨k - 1, by omega⟩
    simp only [impl_GoodEdges.l0, impl_isSpots.f]
    rw [if_neg (by omega), List.drop_of_length_le (by omega), in_same, spec_l1In_eq]
    simp only [upE, Bool.true_and, Option.bind_some]
    rw [show decide (l.length ≤ 40) = decide ((l.length : Int) ≤ 40) from by rw [decide_eq_decide]; omega]
    cases decide (1 ≤ s ∧ s ≤ 12) <;> simp
  | succ d ih =>
    intro k i h hk hp
    obtain ⟨k, rfl⟩ : ∃ m, k = m + 1 := ⟨k - 1, by omega⟩
    have ih := ih k (i + 1) (by omega) (by omega)
    rw [drop_E l i (by omega)]
    simp only [impl_GoodEdges.l0, in_same]
    rw [if_pos (by omega), if_pos (by omega), if_pos (by omega), spec_l1In_eq, spec_l1In_eq, spec_l1In_eq]
    simp only [Option.bind_some, upE, okE]
    by_cases h1 : 0 ≤ (rd_T83 l i).f0 ∧ (rd_T83 l i).f0 ≤ wrap64 (s - 1)
    · by_cases h2 : 0 ≤ (rd_T83 l i).f1 ∧ (rd_T83 l i).f1 ≤ wrap64 (s - 1)
      · rw [decide_eq_true h1, decide_eq_true h2]
        have ih := ih (fun p e => by rw [← Option.some.inj e]; exact ⟨h1.1, h2.1⟩)
        by_cases h3 : (rd_T83 l i).f0 < (rd_T83 l i).f1
        · simp only [if_true]
          rw [if_neg (by omega), decide_eq_true h3]
          cases h4 : decide (1 ≤ (rd_T83 l i).f2 ∧ (rd_T83 l i).f2 ≤ 100)
          · simp
          · simp only [if_true, Bool.true_and, wi i (by omega)]
            cases i with
            | zero =>
              rw [if_neg (by omega), ih]
              rfl
            | succ i =>
              have hp := hp _ rfl
              have m0 : rd_T83 l i ∈ l := by rw [rd_T83_at l i (by omega)]; exact List.getElem_mem _
              have m1 : rd_T83 l ((i + 1 : Nat) : Int) ∈ l := by rw [rd_T83_at l (i + 1) (by omega)]; exact List.getElem_mem _
              have b0 := hw _ m0
              have b1 := hw _ m1
              rw [if_pos (by omega), w64 (x := ((i + 1 : Nat) : Int) - 1) (by omega) (by omega), show ((i + 1 : Nat) : Int) - 1 = (i : Int) by omega, if_pos (by omega), if_pos (by omega)]
              simp only [beforeE, impl_byEnds.f, ih]
              rw [w64 (x := (rd_T83 l i).f1 - (rd_T83 l ((i + 1 : Nat) : Int)).f1) (by omega) (by omega), w64 (x := (rd_T83 l i).f0 - (rd_T83 l ((i + 1 : Nat) : Int)).f0) (by omega) (by omega)]
              by_cases c2 : (rd_T83 l i).f0 = (rd_T83 l ((i + 1 : Nat) : Int)).f0
              · rw [if_pos c2]
                simp only [Option.bind_some]
                by_cases c3 : (rd_T83 l i).f1 ≥ (rd_T83 l ((i + 1 : Nat) : Int)).f1
                · rw [if_pos (by omega), show lexE (some (rd_T83 l (i : Int))) (rd_T83 l ((i + 1 : Nat) : Int)) = false from decide_eq_false (by omega)]
                  simp
                · rw [if_neg (by omega), show lexE (some (rd_T83 l (i : Int))) (rd_T83 l ((i + 1 : Nat) : Int)) = true from decide_eq_true (by omega)]
                  simp
              · rw [if_neg c2]
                simp only [Option.bind_some]
                by_cases c1 : (rd_T83 l i).f0 > (rd_T83 l ((i + 1 : Nat) : Int)).f0
                · rw [if_pos (by omega), show lexE (some (rd_T83 l (i : Int))) (rd_T83 l ((i + 1 : Nat) : Int)) = false from decide_eq_false (by omega)]
                  simp
                · rw [if_neg (by omega), show lexE (some (rd_T83 l (i : Int))) (rd_T83 l ((i + 1 : Nat) : Int)) = true from decide_eq_true (by omega)]
                  simp
        · simp only [if_true]
          rw [if_pos (by omega), decide_eq_false h3]
          simp
      · rw [decide_eq_true h1, decide_eq_false h2]
        simp
    · rw [decide_eq_false h1]
      simp
theorem impl_goodE (s : Int) (l : List S83) (k : Nat) (hn : l.length ≤ 2305843009213693952) (hw : ∀ x ∈ l, (x.f0 ≤ 9223372036854775807) ∧ x.f1 ≤ 9223372036854775807) (hk : l.length < k) : impl_GoodEdges.f k s l = some (goodE s l) := by
  have h := impl_goodE_l s l hn hw l.length k 0 (by omega) hk (fun p e => by cases e)
  rw [List.drop_zero] at h
  exact h

-- rdt(85)
theorem rd_T85_at (l : List S85) (i : Nat) (h : i < l.length) : rd_T85 l i = l[i] := by
  simp [rd_T85, List.getD_eq_getElem?_getD, List.getElem?_eq_getElem h]

-- tos(85;83;laws_toEdgeS;laws_toEdge;⟨x.f0, x.f1, x.f2⟩;5864062014805)
def cv85 (x : S85) : S83 := ⟨x.f0, x.f1, x.f2⟩
theorem laws_toEdgeS_l (l : List S85) (hn : l.length ≤ 4611686018427387904) (d : Nat) : ∀ (k i : Nat) (m : List S83), i + d = l.length → m.length = l.length → m.take i = (l.map cv85).take i → d < k →
    laws_toEdgeS.l0 k l m i = some (l.map cv85) := by
  induction d with
  | zero =>
    intro k i m h hm ht hk
    obtain ⟨k, rfl⟩ : ∃ m, k = m + 1 := ⟨k - 1, by omega⟩
    simp only [laws_toEdgeS.l0]
    rw [if_neg (by omega)]
    rw [List.take_of_length_le (by omega), List.take_of_length_le (by rw [List.length_map]; omega)] at ht
    rw [ht]
  | succ d ih =>
    intro k i m h hm ht hk
    obtain ⟨k, rfl⟩ : ∃ m, k = m + 1 := ⟨k - 1, by omega⟩
    simp only [laws_toEdgeS.l0, laws_toEdge.f, Option.bind_some]
    rw [if_pos (by omega), if_pos (by omega), if_pos (by omega), w64 (by omega) (by omega), show ((i : Int) + 1) = ((i + 1 : Nat) : Int) by omega]
    refine ih k (i + 1) _ (by omega) (by rw [List.length_set]; exact hm) ?_ (by omega)
    rw [Int.toNat_natCast]
    exact set_take _ _ i (by rw [List.length_map]; omega) (by rw [List.length_map]; exact hm) ht _ (by rw [List.getElem?_map, List.getElem?_eq_getElem (by omega), rd_T85_at l i (by omega)]; rfl)
theorem laws_toEdgeS_eq (l : List S85) (k : Nat) (hn : l.length ≤ 5864062014805) (hk : l.length < k) : laws_toEdgeS.f k l = some (l.map cv85) := by
  unfold laws_toEdgeS.f
  rw [if_pos (by omega), if_pos (by omega)]
  exact laws_toEdgeS_l l (by omega) l.length k 0 _ (by omega) (by simp) (by simp) hk

-- eqs(83;laws_eqEdgeS;laws_eqEdge)
theorem laws_eqEdgeS_l (l : List S83) (hn : l.length ≤ 4611686018427387904) (d : Nat) : ∀ (k i : Nat), i + d = l.length → d < k → laws_eqEdgeS.l0 k l l i = some true := by
  induction d with
  | zero =>
    intro k i h hk
    obtain ⟨k, rfl⟩ : ∃ m, k = m + 1 := ⟨k - 1, by omega⟩
    simp only [laws_eqEdgeS.l0]
    rw [if_neg (by omega)]
  | succ d ih =>
    intro k i h hk
    obtain ⟨k, rfl⟩ : ∃ m, k = m + 1 := ⟨k - 1, by omega⟩
    have h1 := ih k (i + 1) (by omega) (by omega)
    simp only [laws_eqEdgeS.l0]
    rw [if_pos (by omega), if_pos (by omega), if_pos (by omega), w64 (by omega) (by omega), show ((i : Int) + 1) = ((i + 1 : Nat) : Int) by omega, h1]
    unfold laws_eqEdge.f
    simp
theorem laws_eqEdgeS_refl (l : List S83) (k : Nat) (hn : l.length ≤ 4611686018427387904) (hk : l.length < k) : laws_eqEdgeS.f k l l = some true := by
  unfold laws_eqEdgeS.f
  rw [if_pos rfl]
  exact laws_eqEdgeS_l l hn l.length k 0 (by omega) hk

theorem FnExactGoodEdges : laws_FnExactGoodEdges.PureS := by
  intro s l _ ⟨hn, hl⟩
  refine ⟨l.length + l.length + 9, ?_⟩
  have hm : (l.map cv85).length = l.length := List.length_map _
  have ht := laws_toEdgeS_eq l (l.length + l.length + 9) (by omega) (by omega)
  have hw : ∀ x ∈ l.map cv85, (x.f0 ≤ 9223372036854775807) ∧ x.f1 ≤ 9223372036854775807 := by
    intro x hx
    obtain ⟨y, hy, rfl⟩ := List.mem_map.1 hx
    obtain ⟨h0, h1, _⟩ := hl y hy
    exact ⟨(wf64 h0).2, (wf64 h1).2⟩
  unfold laws_FnExactGoodEdges.f laws_szEdgeS.f
  rw [w64 (by omega) (by omega)]
  by_cases h0 : 1048576 - (l.length : Int) < 0
  · rw [if_pos h0]
    simp
  · rw [if_neg h0]
    simp only [Option.bind_some]
    rw [if_neg h0, ht]
    simp only [Option.bind_some]
    rw [spec_goodE _ _ _ (by omega) (by omega), impl_goodE _ _ _ (by omega) hw (by omega)]
    simp only [Option.bind_some, bne_self_eq_false, Bool.false_eq_true, if_false]
    rw [laws_eqEdgeS_refl _ _ (by omega) (by omega)]
    simp

end Go.Proofs.Ytgcondmgpcaahaa.Pure
