/- FnExactAreBoth answers true for each pair. No condition beyond the row's own bounds. -/
import Derived.Test.YtnemglgbginbdaaSFnExactAreBoth
namespace Go.Proofs.Ytnemglgbginbdaa.Pure
open Go.RowKit Go.Proofs.Ytnemglgbginbdaa.PFnExactAreBoth Go.Proofs.YtnemglgbginbdaaW.PrintWords Go.Proofs.YtnemglgbginbdaaW.PrintLast
set_option linter.unusedVariables false
set_option linter.unusedSimpArgs false

-- w64
theorem w64 {x : Int} (h0 : -9223372036854775808 ≤ x) (h1 : x ≤ 9223372036854775807) : wrap64 x = x := by
  unfold wrap64
  omega
theorem tm {x y : Int} (h0 : 0 ≤ x) : Int.tmod x y = x % y := Int.tmod_eq_emod_of_nonneg h0
theorem wf64 {x : Int} (h : (Lit.int .i64 x).wf = true) : -9223372036854775808 ≤ x ∧ x ≤ 9223372036854775807 := by
  simp [Lit.wf, IntKind.min, IntKind.max, IntKind.signed, IntKind.bits] at h
  omega

-- helps
theorem set_take {α : Type} (m L : List α) (i : Nat) (hi : i < L.length) (hm : m.length = L.length) (ht : m.take i = L.take i) (v : α) (hv : L[i]? = some v) : (m.set i v).take (i + 1) = L.take (i + 1) := by
  rw [List.take_set, List.take_succ_eq_append_getElem (by omega), List.take_succ_eq_append_getElem hi, ht, List.set_append_right _ _ (by rw [List.length_take]; omega)]
  rw [List.length_take, show i - min i L.length = 0 by omega]
  rw [List.getElem?_eq_getElem hi] at hv
  rw [Option.some.inj hv]
  rfl
/-- From some number of rounds on: one number for a pair. -/
theorem ev_at {α : Type} {g : Nat → Option α} {r : α} (h : Ev g r) : ∃ K, ∀ k, K ≤ k → g k = some r := h
theorem ev_some {α : Type} {g : Nat → Option α} {r : α} (h : ∀ k, g k = some r) : Ev g r := ⟨0, fun k _ => h k⟩
theorem ev_ge {α : Type} {g : Nat → Option α} {r : α} (K : Nat) (h : ∀ k, K ≤ k → g k = some r) : Ev g r := ⟨K, h⟩

-- rdt(79)
theorem rd_T79_at (l : List S79) (i : Nat) (h : i < l.length) : rd_T79 l i = l[i] := by
  simp [rd_T79, List.getD_eq_getElem?_getD, List.getElem?_eq_getElem h]

-- inrange(spec_l1In)
theorem spec_l1In_eq (a lo hi : Int) : spec_l1In.f a lo hi = some (decide (lo ≤ a ∧ a ≤ hi)) := by
  unfold spec_l1In.f
  by_cases h : lo ≤ a
  · rw [if_pos (show a ≥ lo from h)]
    simp [h]
  · rw [if_neg (show ¬ a ≥ lo from h)]
    simp [h]

-- inrange(impl_in)
theorem impl_in_eq (a lo hi : Int) : impl_in.f a lo hi = some (decide (lo ≤ a ∧ a ≤ hi)) := by
  unfold impl_in.f
  by_cases h : lo ≤ a
  · rw [if_pos (show a ≥ lo from h)]
    simp [h]
  · rw [if_neg (show ¬ a ≥ lo from h)]
    simp [h]

-- allin(impl_allIn,impl_in)
theorem impl_allIn_l (lo hi : Int) (l : List Int) (hn : l.length ≤ 4611686018427387904) (d : Nat) : ∀ (k i : Nat), i + d = l.length → d < k →
    impl_allIn.l0 k lo hi l l.length i = some ((l.drop i).all fun x => decide (lo ≤ x ∧ x ≤ hi)) := by
  induction d with
  | zero =>
    intro k i h hk
    obtain ⟨k, rfl⟩ : ∃ m, k = m + 1 := ⟨k - 1, by omega⟩
    simp only [impl_allIn.l0]
    rw [if_neg (by omega), List.drop_of_length_le (by omega)]
    rfl
  | succ d ih =>
    intro k i h hk
    obtain ⟨k, rfl⟩ : ∃ m, k = m + 1 := ⟨k - 1, by omega⟩
    have h1 := ih k (i + 1) (by omega) (by omega)
    have ea : l.drop i = rd l i :: l.drop (i + 1) := by
      unfold rd
      rw [Int.toNat_natCast, List.getD_eq_getElem?_getD, List.getElem?_eq_getElem (by omega)]
      exact List.drop_eq_getElem_cons (by omega)
    simp only [impl_allIn.l0]
    rw [if_pos (by omega), if_pos (by omega), if_pos (by omega), impl_in_eq, ea, List.all_cons]
    simp only [Option.bind_some]
    by_cases e : lo ≤ rd l i ∧ rd l i ≤ hi
    · rw [decide_eq_true e]
      simp only [if_true, Bool.true_and]
      rw [w64 (by omega) (by omega), show ((i : Int) + 1) = ((i + 1 : Nat) : Int) by omega]
      exact h1
    · rw [decide_eq_false e]
      simp
theorem impl_allIn_eq (l : List Int) (lo hi : Int) (k : Nat) (hn : l.length ≤ 4611686018427387904) (hk : l.length < k) : impl_allIn.f k l lo hi = some (l.all fun x => decide (lo ≤ x ∧ x ≤ hi)) := by
  have h := impl_allIn_l lo hi l hn l.length k 0 (by omega) hk
  unfold impl_allIn.f
  simpa using h

-- upfrom
/-- n, n + 1, .., in so many places. -/
def upFrom (m : Int) (n : Nat) : List Int := (List.range n).map fun i : Nat => m + i
theorem upFrom_len (m : Int) (n : Nat) : (upFrom m n).length = n := by simp [upFrom]
theorem rd_nat (l : List Int) (i : Nat) : rd l i = l.getD i 0 := by simp [rd]
theorem rd_upFrom (m : Int) (n i : Nat) (h : i < n) : rd (upFrom m n) i = m + i := by
  simp [rd, upFrom, h]

-- eqi
theorem eqI_l (a b : List Int) (hl : a.length = b.length) (hn : a.length ≤ 4611686018427387904) (d : Nat) : ∀ (k i : Nat), i + d = a.length → d < k →
    laws_eqIntS.l0 k a b i = some (decide (a.drop i = b.drop i)) := by
  induction d with
  | zero =>
    intro k i h hk
    obtain ⟨k, rfl⟩ : ∃ m, k = m + 1 := ⟨k - 1, by omega⟩
    simp only [laws_eqIntS.l0]
    rw [if_neg (by omega), List.drop_of_length_le (by omega), List.drop_of_length_le (by omega)]
    simp
  | succ d ih =>
    intro k i h hk
    obtain ⟨k, rfl⟩ : ∃ m, k = m + 1 := ⟨k - 1, by omega⟩
    have h1 := ih k (i + 1) (by omega) (by omega)
    simp only [laws_eqIntS.l0]
    rw [if_pos (by omega), if_pos (by omega), if_pos (by omega), rd_nat, rd_nat, w64 (by omega) (by omega)]
    have ea : a.drop i = a.getD i 0 :: a.drop (i + 1) := by
      rw [List.getD_eq_getElem?_getD, List.getElem?_eq_getElem (by omega)]
      exact List.drop_eq_getElem_cons (by omega)
    have eb : b.drop i = b.getD i 0 :: b.drop (i + 1) := by
      rw [List.getD_eq_getElem?_getD, List.getElem?_eq_getElem (by omega)]
      exact List.drop_eq_getElem_cons (by omega)
    by_cases e : a.getD i 0 = b.getD i 0
    · rw [if_pos e]
      rw [show ((i : Int) + 1) = ((i + 1 : Nat) : Int) by omega, h1, ea, eb, e]
      simp
    · rw [if_neg e, ea, eb, decide_eq_false (fun h => e (List.cons.inj h).1)]
theorem eqI (a b : List Int) (k : Nat) (hn : a.length ≤ 4611686018427387904) (hk : a.length < k) : laws_eqIntS.f k a b = some (decide (a = b)) := by
  unfold laws_eqIntS.f
  by_cases hl : a.length = b.length
  · rw [if_pos (by omega)]
    simpa using eqI_l a b hl hn a.length k 0 (by omega) hk
  · rw [if_neg (by omega)]
    have : a ≠ b := fun e => hl (by rw [e])
    simp [this]

-- toints
theorem toI_l (l : List Int) (hn : l.length ≤ 35184372088832) (d : Nat) : ∀ (k i : Nat) (m : List Int), i + d = l.length → m.length = l.length → m.take i = l.take i → d < k →
    laws_toIntS.l0 k l m i = some l := by
  induction d with
  | zero =>
    intro k i m h hm ht hk
    obtain ⟨k, rfl⟩ : ∃ m, k = m + 1 := ⟨k - 1, by omega⟩
    simp only [laws_toIntS.l0]
    rw [if_neg (by omega)]
    obtain rfl : i = l.length := by omega
    rw [List.take_length, ← hm, List.take_length] at ht
    rw [ht]
  | succ d ih =>
    intro k i m h hm ht hk
    obtain ⟨k, rfl⟩ : ∃ m, k = m + 1 := ⟨k - 1, by omega⟩
    simp only [laws_toIntS.l0]
    rw [if_pos (by omega), if_pos (by omega), if_pos (by omega), w64 (by omega) (by omega), show ((i : Int) + 1) = ((i + 1 : Nat) : Int) by omega]
    refine ih k (i + 1) _ (by omega) (by rw [List.length_set]; exact hm) ?_ (by omega)
    unfold rd
    rw [Int.toNat_natCast, List.take_set, List.take_succ_eq_append_getElem (by omega), List.take_succ_eq_append_getElem (by omega), ht,
      List.set_append_right _ _ (by rw [List.length_take]; omega)]
    simp [List.length_take, List.getD_eq_getElem?_getD, show i < l.length by omega, show min i l.length = i by omega]
theorem toI (l : List Int) (k : Nat) (hn : l.length ≤ 35184372088832) (hk : l.length < k) : laws_toIntS.f k l = some l := by
  unfold laws_toIntS.f
  rw [if_pos (by omega), if_pos (by omega)]
  exact toI_l l hn l.length k 0 _ (by omega) (by simp) (by simp) hk

-- goodpair(79)
theorem drop_H (l : List S79) (i : Nat) (h : i < l.length) : l.drop i = rd_T79 l i :: l.drop (i + 1) := by
  rw [rd_T79_at l i h]
  exact List.drop_eq_getElem_cons h
def lineOk (l : List S79) : Bool := l.all fun h => decide (0 ≤ h.f0 ∧ h.f0 ≤ 1)
theorem side_eq (a : Int) : spec_l3Side.f a = some (decide (0 ≤ a ∧ a ≤ 1)) := by
  unfold spec_l3Side.f
  rw [spec_l1In_eq]
  rfl
theorem spec_line (l : List S79) (hn : l.length ≤ 4611686018427387904) (d : Nat) : ∀ (k i : Nat), i + d = l.length → d < k → spec_GoodPair.l1 k l l.length i = some (lineOk (l.drop i)) := by
  induction d with
  | zero =>
    intro k i h hk
    obtain ⟨k, rfl⟩ : ∃ m, k = m + 1 := ⟨k - 1, by omega⟩
    simp only [spec_GoodPair.l1]
    rw [if_neg (by omega), List.drop_of_length_le (by omega)]
    rfl
  | succ d ih =>
    intro k i h hk
    obtain ⟨k, rfl⟩ : ∃ m, k = m + 1 := ⟨k - 1, by omega⟩
    have ih := ih k (i + 1) (by omega) (by omega)
    simp only [spec_GoodPair.l1]
    rw [if_pos (by omega), if_pos (by omega), if_pos (by omega), side_eq, drop_H l i (by omega), w64 (by omega) (by omega), show ((i : Int) + 1) = ((i + 1 : Nat) : Int) by omega]
    unfold lineOk at ih ⊢
    rw [List.all_cons]
    simp only [Option.bind_some]
    cases decide (0 ≤ (rd_T79 l i).f0 ∧ (rd_T79 l i).f0 ≤ 1)
    · simp
    · simp only [if_true, Bool.true_and]
      exact ih
theorem line_same : ∀ (k : Nat) (l : List S79) (n i : Int), impl_GoodPair.l1 k l n i = spec_GoodPair.l1 k l n i
  | 0, _, _, _ => rfl
  | k + 1, l, n, i => by simp only [impl_GoodPair.l1, spec_GoodPair.l1, side_eq, impl_in_eq, line_same k]
/-- Is a pair as it should be? -/
def pairOk (s t : List Int) (l : List S79) : Bool :=
  match s, t with
  | [a, b], [c, d] => decide (l.length ≤ 12) && (decide (0 ≤ a ∧ a ≤ 2) && (decide (0 ≤ b ∧ b ≤ 2) && (decide (0 ≤ c ∧ c ≤ 3) && (decide (0 ≤ d ∧ d ≤ 3) && (((c == 0) == (a == 0)) && (((d == 0) == (b == 0)) && lineOk l))))))
  | _, _ => false
theorem len2 {s : List Int} (h : s.length = 2) : ∃ a b, s = [a, b] := by
  match s, h with
  | [a, b], _ => exact ⟨a, b, rfl⟩
theorem pairOk_no (s t : List Int) (l : List S79) (h : ¬ (s.length = 2 ∧ t.length = 2)) : pairOk s t l = false := by
  unfold pairOk
  split
  · exact absurd ⟨rfl, rfl⟩ h
  · rfl
theorem spec_pair (s t : List Int) (l : List S79) (k : Nat) (hn : l.length ≤ 4611686018427387904) (hk : l.length + 5 < k) : spec_GoodPair.f k s t l = some (pairOk s t l) := by
  obtain ⟨k, rfl⟩ : ∃ m, k = m + 5 := ⟨k - 5, by omega⟩
  unfold spec_GoodPair.f
  by_cases hs : s.length = 2
  · by_cases ht : t.length = 2
    · rw [if_pos (by omega), if_pos (by omega)]
      obtain ⟨a, b, rfl⟩ := len2 hs
      obtain ⟨c, d, rfl⟩ := len2 ht
      have hl := spec_line l hn l.length (k + 1) 0 (by omega) (by omega)
      rw [List.drop_zero] at hl
      replace hl : spec_GoodPair.l1 (k + 1) l l.length 0 = some (lineOk l) := hl
      have w1 : wrap64 (0 + 1) = 1 := w64 (by omega) (by omega)
      have w2 : wrap64 (1 + 1) = 2 := w64 (by omega) (by omega)
      have r0 : ∀ x y : Int, rd [x, y] 0 = x := fun _ _ => rfl
      have r1 : ∀ x y : Int, rd [x, y] 1 = y := fun _ _ => rfl
      by_cases h12 : l.length ≤ 12
      · simp only [spec_GoodPair.j0, spec_GoodPair.l0, spec_l1In_eq, w1, w2, r0, r1, List.length_cons, List.length_nil, hl, Option.bind_some, pairOk, decide_eq_true h12, Bool.true_and]
        rw [decide_eq_false (show ¬ (l.length : Int) > 12 by omega)]
        cases decide (0 ≤ a ∧ a ≤ 2) <;> cases decide (0 ≤ b ∧ b ≤ 2) <;> cases decide (0 ≤ c ∧ c ≤ 3) <;> cases decide (0 ≤ d ∧ d ≤ 3) <;> cases (c == 0) <;> cases (a == 0) <;> cases (d == 0) <;> cases (b == 0) <;> simp
      · simp only [spec_GoodPair.j0, pairOk, decide_eq_false h12, Bool.false_and]
        rw [decide_eq_true (show (l.length : Int) > 12 by omega), if_pos rfl]
    · rw [if_pos (by omega), if_neg (by omega), pairOk_no s t l (fun e => ht e.2)]
      simp [spec_GoodPair.j0]
  · rw [if_neg (by omega), pairOk_no s t l (fun e => hs e.1)]
    simp [spec_GoodPair.j0]
theorem impl_pair (s t : List Int) (l : List S79) (k : Nat) (hn : l.length ≤ 4611686018427387904) (hk : l.length + 5 < k) : impl_GoodPair.f k s t l = some (pairOk s t l) := by
  obtain ⟨k, rfl⟩ : ∃ m, k = m + 5 := ⟨k - 5, by omega⟩
  unfold impl_GoodPair.f
  by_cases hs : s.length = 2
  · by_cases ht : t.length = 2
    · rw [if_pos (by omega), if_pos (by omega)]
      obtain ⟨a, b, rfl⟩ := len2 hs
      obtain ⟨c, d, rfl⟩ := len2 ht
      have hl := spec_line l hn l.length (k + 1) 0 (by omega) (by omega)
      rw [List.drop_zero] at hl
      replace hl : spec_GoodPair.l1 (k + 1) l l.length 0 = some (lineOk l) := hl
      have w1 : wrap64 (0 + 1) = 1 := w64 (by omega) (by omega)
      have w2 : wrap64 (1 + 1) = 2 := w64 (by omega) (by omega)
      have r0 : ∀ x y : Int, rd [x, y] 0 = x := fun _ _ => rfl
      have r1 : ∀ x y : Int, rd [x, y] 1 = y := fun _ _ => rfl
      by_cases h12 : l.length ≤ 12
      · rw [if_neg (by omega), impl_allIn_eq _ _ _ _ (by simp) (by simp), impl_allIn_eq _ _ _ _ (by simp) (by simp)]
        simp only [impl_GoodPair.j0, impl_GoodPair.l0, w1, w2, r0, r1, List.length_cons, List.length_nil, line_same, hl, Option.bind_some, pairOk, decide_eq_true h12, Bool.true_and, List.all_cons, List.all_nil]
        cases decide (0 ≤ a ∧ a ≤ 2) <;> cases decide (0 ≤ b ∧ b ≤ 2) <;> cases decide (0 ≤ c ∧ c ≤ 3) <;> cases decide (0 ≤ d ∧ d ≤ 3) <;> cases (c == 0) <;> cases (a == 0) <;> cases (d == 0) <;> cases (b == 0) <;> simp
      · rw [if_pos (by omega)]
        simp only [impl_GoodPair.j0, pairOk, decide_eq_false h12, Bool.false_and, if_true]
    · rw [if_pos (by omega), if_neg (by omega), pairOk_no s t l (fun e => ht e.2)]
      simp [impl_GoodPair.j0]
  · rw [if_neg (by omega), pairOk_no s t l (fun e => hs e.1)]
    simp [impl_GoodPair.j0]

-- rdt(94)
theorem rd_T94_at (l : List S94) (i : Nat) (h : i < l.length) : rd_T94 l i = l[i] := by
  simp [rd_T94, List.getD_eq_getElem?_getD, List.getElem?_eq_getElem h]

-- tos(94;79;laws_toHelloS;laws_toHello;⟨x.f0, x.f1⟩;8796093022208)
def cv94 (x : S94) : S79 := ⟨x.f0, x.f1⟩
theorem laws_toHelloS_l (l : List S94) (hn : l.length ≤ 4611686018427387904) (d : Nat) : ∀ (k i : Nat) (m : List S79), i + d = l.length → m.length = l.length → m.take i = (l.map cv94).take i → d < k →
    laws_toHelloS.l0 k l m i = some (l.map cv94) := by
  induction d with
  | zero =>
    intro k i m h hm ht hk
    obtain ⟨k, rfl⟩ : ∃ m, k = m + 1 := ⟨k - 1, by omega⟩
    simp only [laws_toHelloS.l0]
    rw [if_neg (by omega)]
    rw [List.take_of_length_le (by omega), List.take_of_length_le (by rw [List.length_map]; omega)] at ht
    rw [ht]
  | succ d ih =>
    intro k i m h hm ht hk
    obtain ⟨k, rfl⟩ : ∃ m, k = m + 1 := ⟨k - 1, by omega⟩
    simp only [laws_toHelloS.l0, laws_toHello.f, Option.bind_some]
    rw [if_pos (by omega), if_pos (by omega), if_pos (by omega), w64 (by omega) (by omega), show ((i : Int) + 1) = ((i + 1 : Nat) : Int) by omega]
    refine ih k (i + 1) _ (by omega) (by rw [List.length_set]; exact hm) ?_ (by omega)
    rw [Int.toNat_natCast]
    exact set_take _ _ i (by rw [List.length_map]; omega) (by rw [List.length_map]; exact hm) ht _ (by rw [List.getElem?_map, List.getElem?_eq_getElem (by omega), rd_T94_at l i (by omega)]; rfl)
theorem laws_toHelloS_eq (l : List S94) (k : Nat) (hn : l.length ≤ 8796093022208) (hk : l.length < k) : laws_toHelloS.f k l = some (l.map cv94) := by
  unfold laws_toHelloS.f
  rw [if_pos (by omega), if_pos (by omega)]
  exact laws_toHelloS_l l (by omega) l.length k 0 _ (by omega) (by simp) (by simp) hk

-- eqs(79;laws_eqHelloS;laws_eqHello)
theorem laws_eqHelloS_l (l : List S79) (hn : l.length ≤ 4611686018427387904) (d : Nat) : ∀ (k i : Nat), i + d = l.length → d < k → laws_eqHelloS.l0 k l l i = some true := by
  induction d with
  | zero =>
    intro k i h hk
    obtain ⟨k, rfl⟩ : ∃ m, k = m + 1 := ⟨k - 1, by omega⟩
    simp only [laws_eqHelloS.l0]
    rw [if_neg (by omega)]
  | succ d ih =>
    intro k i h hk
    obtain ⟨k, rfl⟩ : ∃ m, k = m + 1 := ⟨k - 1, by omega⟩
    have h1 := ih k (i + 1) (by omega) (by omega)
    simp only [laws_eqHelloS.l0]
    rw [if_pos (by omega), if_pos (by omega), if_pos (by omega), w64 (by omega) (by omega), show ((i : Int) + 1) = ((i + 1 : Nat) : Int) by omega, h1]
    unfold laws_eqHello.f
    simp
theorem laws_eqHelloS_refl (l : List S79) (k : Nat) (hn : l.length ≤ 4611686018427387904) (hk : l.length < k) : laws_eqHelloS.f k l l = some true := by
  unfold laws_eqHelloS.f
  rw [if_pos rfl]
  exact laws_eqHelloS_l l hn l.length k 0 (by omega) hk

-- topair(94;79)
theorem toPair_eq (s t : List Int) (l : List S94) (k : Nat) (h1 : s.length ≤ 35184372088832) (h2 : t.length ≤ 35184372088832) (h3 : l.length ≤ 8796093022208) (hk : s.length + t.length + l.length < k) :
    laws_toPair.f k s t l = some (s, t, l.map cv94) := by
  unfold laws_toPair.f
  rw [toI s k h1 (by omega), toI t k h2 (by omega), laws_toHelloS_eq l k h3 (by omega)]
  rfl
theorem eqPair_refl (s t : List Int) (l : List S79) (k : Nat) (h1 : s.length ≤ 35184372088832) (h2 : t.length ≤ 35184372088832) (h3 : l.length ≤ 4611686018427387904) (hk : s.length + t.length + l.length < k) : laws_eqPair.f k s t l s t l = some true := by
  unfold laws_eqPair.f
  rw [eqI s s k (by omega) (by omega), eqI t t k (by omega) (by omega), laws_eqHelloS_refl l k h3 (by omega)]
  simp
theorem szPair_any (s t : List Int) (l : List S94) (m : Int) : ∃ r, laws_szPair.f s t l m = some r := by
  unfold laws_szPair.f laws_szIntS.f laws_szHelloS.f
  split
  · exact ⟨-1, by simp⟩
  · rename_i h
    simp only [Option.bind_some]
    rw [if_neg h]
    split
    · exact ⟨-1, by simp⟩
    · rename_i h2
      simp only [Option.bind_some]
      rw [if_neg h2]
      split
      · exact ⟨-1, by simp⟩
      · rename_i h3
        simp only [Option.bind_some]
        rw [if_neg h3]
        exact ⟨_, rfl⟩

theorem both_both (s t : List Int) (l : List S79) (k : Nat) (hn : l.length ≤ 4611686018427387904) (hk : l.length + 5 < k) : ∃ r, spec_AreBoth.f k s t l = some r ∧ impl_AreBoth.f k s t l = some r := by
  unfold spec_AreBoth.f impl_AreBoth.f
  rw [spec_pair _ _ _ _ hn hk, impl_pair _ _ _ _ hn hk]
  simp only [Option.bind_some]
  cases hp : pairOk s t l
  · exact ⟨(false, false), by simp, by simp⟩
  · have h2 : s.length = 2 := by
      by_cases h : s.length = 2
      · exact h
      · rw [pairOk_no s t l (fun e => h e.1)] at hp
        cases hp
    rw [if_pos rfl, if_pos (by omega), if_pos (show 1 < (s.length : Int) by omega)]
    split
    · exact ⟨_, rfl, rfl⟩
    · exact ⟨_, rfl, rfl⟩
theorem FnExactAreBoth : laws_FnExactAreBoth.PureS := by
  intro s t l ⟨hs, _⟩ ⟨ht, _⟩ ⟨hl, _⟩
  have hm : (l.map cv94).length = l.length := List.length_map _
  refine ⟨s.length + t.length + l.length + 9, ?_⟩
  obtain ⟨r, hr⟩ := szPair_any s t l 1048576
  obtain ⟨b, e1, e2⟩ := both_both s t (l.map cv94) (s.length + t.length + l.length + 9) (by omega) (by omega)
  unfold laws_FnExactAreBoth.f
  rw [hr]
  simp only [Option.bind_some]
  by_cases h0 : r < 0
  · rw [if_pos h0]
  · rw [if_neg h0, toPair_eq s t l _ (by omega) (by omega) (by omega) (by omega)]
    simp only [Option.bind_some]
    rw [e1, e2]
    simp only [Option.bind_some, bne_self_eq_false, Bool.false_eq_true, if_false]
    simp only [laws_FnExactAreBoth.j0, Bool.false_eq_true, if_false]
    rw [toPair_eq s t l _ (by omega) (by omega) (by omega) (by omega)]
    simp only [Option.bind_some]
    rw [eqPair_refl _ _ _ _ (by omega) (by omega) (by omega) (by omega)]
    simp

end Go.Proofs.Ytnemglgbginbdaa.Pure
