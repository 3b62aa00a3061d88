/- FnExactFrameText answers true for each list of parts. No condition beyond the row's own bounds. -/
import Derived.Test.YtajfpfmbmkmafaaSFnExactFrameText
namespace Go.Proofs.Ytajfpfmbmkmafaa.Pure
open Go.RowKit Go.Proofs.Ytajfpfmbmkmafaa.PFnExactFrameText Go.Proofs.YtajfpfmbmkmafaaW.PrintWords Go.Proofs.YtajfpfmbmkmafaaW.PrintLast
set_option linter.unusedVariables false
set_option linter.unusedSimpArgs false

-- w64
theorem w64 {x : Int} (h0 : -9223372036854775808 ≤ x) (h1 : x ≤ 9223372036854775807) : wrap64 x = x := by
  unfold wrap64
  omega
theorem tm {x y : Int} (h0 : 0 ≤ x) : Int.tmod x y = x % y := Int.tmod_eq_emod_of_nonneg h0
theorem wf64 {x : Int} (h : (Lit.int .i64 x).wf = true) : -9223372036854775808 ≤ x ∧ x ≤ 9223372036854775807 := by
  simp [Lit.wf, IntKind.min, IntKind.max, IntKind.signed, IntKind.bits] at h
  omega

-- inrange(spec_l1In)
theorem spec_l1In_eq (a lo hi : Int) : spec_l1In.f a lo hi = some (decide (lo ≤ a ∧ a ≤ hi)) := by
  unfold spec_l1In.f
  by_cases h : lo ≤ a
  · rw [if_pos (show a ≥ lo from h)]
    simp [h]
  · rw [if_neg (show ¬ a ≥ lo from h)]
    simp [h]

-- inrange(impl_in)
theorem impl_in_eq (a lo hi : Int) : impl_in.f a lo hi = some (decide (lo ≤ a ∧ a ≤ hi)) := by
  unfold impl_in.f
  by_cases h : lo ≤ a
  · rw [if_pos (show a ≥ lo from h)]
    simp [h]
  · rw [if_neg (show ¬ a ≥ lo from h)]
    simp [h]

-- allin(impl_allIn,impl_in)
theorem impl_allIn_l (lo hi : Int) (l : List Int) (hn : l.length ≤ 4611686018427387904) (d : Nat) : ∀ (k i : Nat), i + d = l.length → d < k →
    impl_allIn.l0 k lo hi l l.length i = some ((l.drop i).all fun x => decide (lo ≤ x ∧ x ≤ hi)) := by
  induction d with
  | zero =>
    intro k i h hk
    obtain ⟨k, rfl⟩ : ∃ m, k = m + 1 := ⟨k - 1, by omega⟩
    simp only [impl_allIn.l0]
    rw [if_neg (by omega), List.drop_of_length_le (by omega)]
    rfl
  | succ d ih =>
    intro k i h hk
    obtain ⟨k, rfl⟩ : ∃ m, k = m + 1 := ⟨k - 1, by omega⟩
    have h1 := ih k (i + 1) (by omega) (by omega)
    have ea : l.drop i = rd l i :: l.drop (i + 1) := by
      unfold rd
      rw [Int.toNat_natCast, List.getD_eq_getElem?_getD, List.getElem?_eq_getElem (by omega)]
      exact List.drop_eq_getElem_cons (by omega)
    simp only [impl_allIn.l0]
    rw [if_pos (by omega), if_pos (by omega), if_pos (by omega), impl_in_eq, ea, List.all_cons]
    simp only [Option.bind_some]
    by_cases e : lo ≤ rd l i ∧ rd l i ≤ hi
    · rw [decide_eq_true e]
      simp only [if_true, Bool.true_and]
      rw [w64 (by omega) (by omega), show ((i : Int) + 1) = ((i + 1 : Nat) : Int) by omega]
      exact h1
    · rw [decide_eq_false e]
      simp
theorem impl_allIn_eq (l : List Int) (lo hi : Int) (k : Nat) (hn : l.length ≤ 4611686018427387904) (hk : l.length < k) : impl_allIn.f k l lo hi = some (l.all fun x => decide (lo ≤ x ∧ x ≤ hi)) := by
  have h := impl_allIn_l lo hi l hn l.length k 0 (by omega) hk
  unfold impl_allIn.f
  simpa using h

-- goodpart
theorem noBytes {s : ByteArray} (h : s.toList = ([] : List UInt8)) : s.size = 0 := by
  rw [ByteArray.toList_eq] at h
  have h2 := congrArg List.length h
  simpa using h2
theorem spec_rise_l (c : List Int) (lo hi : Int) (hn : c.length ≤ 4611686018427387904) (d : Nat) : ∀ (k i : Nat), i + d = c.length → d < k →
    ∃ b, spec_l1Rising.l0 k c lo hi c c.length i = some b ∧ (b = true ↔ ∀ j : Nat, i ≤ j → j < c.length → (lo ≤ rd c (j : Int) ∧ rd c (j : Int) ≤ hi) ∧ (0 < j → rd c ((j : Int) - 1) < rd c (j : Int))) := by
  induction d with
  | zero =>
    intro k i h hk
    obtain ⟨k, rfl⟩ : ∃ m, k = m + 1 := ⟨k - 1, by omega⟩
    simp only [spec_l1Rising.l0]
    rw [if_neg (by omega)]
    exact ⟨true, rfl, fun _ j h1 h2 => absurd h2 (by omega), fun _ => rfl⟩
  | succ d ih =>
    intro k i h hk
    obtain ⟨k, rfl⟩ : ∃ m, k = m + 1 := ⟨k - 1, by omega⟩
    obtain ⟨b, e, hb⟩ := ih k (i + 1) (by omega) (by omega)
    simp only [spec_l1Rising.l0, spec_l1In_eq]
    rw [if_pos (by omega), if_pos (by omega), if_pos (by omega)]
    simp only [Option.bind_some]
    rw [w64 (x := (i : Int) + 1) (by omega) (by omega), w64 (x := (i : Int) - 1) (by omega) (by omega), show ((i : Int) + 1) = ((i + 1 : Nat) : Int) by omega, e]
    by_cases h1 : lo ≤ rd c (i : Int) ∧ rd c (i : Int) ≤ hi
    · rw [if_pos (decide_eq_true h1)]
      by_cases h2 : (i : Int) > 0
      · rw [if_pos h2, if_pos (by omega), if_pos (by omega)]
        by_cases h3 : rd c ((i : Int) - 1) ≥ rd c (i : Int)
        · rw [if_pos h3]
          exact ⟨false, rfl, fun h => absurd h Bool.false_ne_true, fun h => absurd ((h i (Nat.le_refl _) (by omega)).2 (by omega)) (by omega)⟩
        · rw [if_neg h3]
          refine ⟨b, rfl, hb.trans ⟨fun h j g1 g2 => ?_, fun h j g1 g2 => h j (by omega) g2⟩⟩
          by_cases g : j = i
          · subst g
            exact ⟨h1, fun _ => by omega⟩
          · exact h j (by omega) g2
      · rw [if_neg h2]
        refine ⟨b, rfl, hb.trans ⟨fun h j g1 g2 => ?_, fun h j g1 g2 => h j (by omega) g2⟩⟩
        by_cases g : j = i
        · subst g
          exact ⟨h1, fun _ => by omega⟩
        · exact h j (by omega) g2
    · rw [decide_eq_false h1, if_neg Bool.false_ne_true]
      exact ⟨false, rfl, fun h => absurd h Bool.false_ne_true, fun h => absurd ((h i (Nat.le_refl _) (by omega)).1) h1⟩
theorem impl_rise_l (c : List Int) (hn : c.length ≤ 4611686018427387904) (d : Nat) : ∀ (k i : Nat), c.length ≤ i + d → 1 ≤ i → i ≤ c.length + 1 → d < k →
    ∃ b, impl_rising.l0 k c i = some b ∧ (b = true ↔ ∀ j : Nat, i ≤ j → j < c.length → rd c ((j : Int) - 1) < rd c (j : Int)) := by
  induction d with
  | zero =>
    intro k i h hi hi2 hk
    obtain ⟨k, rfl⟩ : ∃ m, k = m + 1 := ⟨k - 1, by omega⟩
    simp only [impl_rising.l0]
    rw [if_neg (by omega)]
    exact ⟨true, rfl, fun _ j h1 h2 => absurd h2 (by omega), fun _ => rfl⟩
  | succ d ih =>
    intro k i h hi hi2 hk
    obtain ⟨k, rfl⟩ : ∃ m, k = m + 1 := ⟨k - 1, by omega⟩
    simp only [impl_rising.l0]
    by_cases h0 : (i : Int) < c.length
    · obtain ⟨b, e, hb⟩ := ih k (i + 1) (by omega) (by omega) (by omega) (by omega)
      rw [if_pos h0, w64 (x := (i : Int) + 1) (by omega) (by omega), w64 (x := (i : Int) - 1) (by omega) (by omega), show ((i : Int) + 1) = ((i + 1 : Nat) : Int) by omega, e, if_pos (by omega), if_pos (by omega), if_pos (by omega)]
      by_cases h3 : rd c ((i : Int) - 1) ≥ rd c (i : Int)
      · rw [if_pos h3]
        exact ⟨false, rfl, fun h => absurd h Bool.false_ne_true, fun h => absurd ((h i (Nat.le_refl _) (by omega))) (by omega)⟩
      · rw [if_neg h3]
        refine ⟨b, rfl, hb.trans ⟨fun h j g1 g2 => ?_, fun h j g1 g2 => h j (by omega) g2⟩⟩
        by_cases g : j = i
        · subst g
          omega
        · exact h j (by omega) g2
    · rw [if_neg h0]
      exact ⟨true, rfl, fun _ j h1 h2 => absurd h2 (by omega), fun _ => rfl⟩
theorem both_rise (c : List Int) (k : Nat) (hn : c.length ≤ 4611686018427387904) (hk : c.length + 1 < k) :
    ∃ b, spec_l1Rising.f k c 0 65535 = some b ∧ ((impl_rising.f k c).bind fun t => if t = true then ((impl_allIn.f k c 0 65535).bind fun u => some u) else some false) = some b := by
  obtain ⟨b, e, hb⟩ := spec_rise_l c 0 65535 hn c.length k 0 (by omega) (by omega)
  obtain ⟨b2, e2, hb2⟩ := impl_rise_l c hn c.length k 1 (by omega) (by omega) (by omega) (by omega)
  refine ⟨b, e, ?_⟩
  unfold impl_rising.f
  rw [show (1 : Int) = ((1 : Nat) : Int) by rfl, e2, impl_allIn_eq _ _ _ _ hn (by omega)]
  simp only [Option.bind_some]
  have ha : (c.all fun x => decide (0 ≤ x ∧ x ≤ 65535)) = true ↔ ∀ j : Nat, j < c.length → 0 ≤ rd c (j : Int) ∧ rd c (j : Int) ≤ 65535 := by
    rw [List.all_eq_true]
    constructor
    · intro h j hj
      have := h c[j] (List.getElem_mem hj)
      unfold rd
      rw [Int.toNat_natCast, List.getD_eq_getElem?_getD, List.getElem?_eq_getElem hj]
      simpa using this
    · intro h x hx
      obtain ⟨j, hj, rfl⟩ := List.mem_iff_getElem.1 hx
      have := h j hj
      unfold rd at this
      rw [Int.toNat_natCast, List.getD_eq_getElem?_getD, List.getElem?_eq_getElem hj] at this
      simpa using this
  by_cases h2 : b2 = true
  · rw [if_pos h2]
    congr 1
    rw [Bool.eq_iff_iff, ha, hb]
    rw [hb2] at h2
    exact ⟨fun h j _ hj => ⟨h j hj, fun h0 => h2 j (by omega) hj⟩, fun h j hj => (h j (by omega) hj).1⟩
  · rw [if_neg h2]
    congr 1
    symm
    rw [Bool.eq_false_iff]
    intro h
    rw [hb] at h
    rw [hb2] at h2
    exact h2 fun j h1 hj => (h j (by omega) hj).2 (by omega)
theorem both_name_l (a : Int) (s : ByteArray) (c : List Int) (hn : s.size ≤ 4611686018427387904) (d : Nat) : ∀ (k i : Nat), i + d = s.size → d < k →
    ∃ b, spec_GoodPart.l0 k i a s c = some b ∧ impl_GoodPart.l0 k s.size i a s c = some b ∧ (b = true → s.size ≤ 20 ∧ c.length = 0) := by
  induction d with
  | zero =>
    intro k i h hk
    obtain ⟨k, rfl⟩ : ∃ m, k = m + 1 := ⟨k - 1, by omega⟩
    simp only [spec_GoodPart.l0, impl_GoodPart.l0, spec_l1In_eq, impl_in_eq]
    rw [if_neg (by omega), if_neg (by omega)]
    simp only [Option.bind_some]
    by_cases h1 : (1 : Int) ≤ s.size ∧ (s.size : Int) ≤ 20
    · rw [decide_eq_true h1]
      simp only [if_true]
      exact ⟨_, rfl, rfl, fun h => ⟨by omega, by have := of_decide_eq_true h; simpa using h⟩⟩
    · rw [decide_eq_false h1]
      simp only [Bool.false_eq_true, if_false]
      exact ⟨_, rfl, rfl, fun h => absurd h Bool.false_ne_true⟩
  | succ d ih =>
    intro k i h hk
    obtain ⟨k, rfl⟩ : ∃ m, k = m + 1 := ⟨k - 1, by omega⟩
    obtain ⟨b, e, e2, hb⟩ := ih k (i + 1) (by omega) (by omega)
    simp only [spec_GoodPart.l0, impl_GoodPart.l0]
    have g1 : (i : Int) < s.size := by omega
    have g2 : (0 : Int) ≤ i := by omega
    rw [if_pos g1, if_pos g2, if_pos g1, if_pos g2, if_pos g1, w64 (x := (i : Int) + 1) (by omega) (by omega), show ((i : Int) + 1) = ((i + 1 : Nat) : Int) by omega, e, e2]
    by_cases h1 : bt s (i : Int) < 97
    · rw [if_pos h1]
      exact ⟨_, rfl, rfl, fun h => absurd h Bool.false_ne_true⟩
    · rw [if_neg h1]
      by_cases h2 : bt s (i : Int) > 122
      · rw [if_pos h2]
        exact ⟨_, rfl, rfl, fun h => absurd h Bool.false_ne_true⟩
      · rw [if_neg h2]
        exact ⟨b, rfl, rfl, hb⟩
theorem both_j1 (x a : Int) (t : Bool) (s : ByteArray) (c : List Int) (k : Nat) (hn : c.length ≤ 4611686018427387904) (hk : c.length + 2 < k) :
    ∃ b, spec_GoodPart.j1 k x t a s c = some b ∧ impl_GoodPart.j1 k x t a s c = some b ∧ (b = true → s.size ≤ 20 ∧ c.length ≤ 20) := by
  obtain ⟨k, rfl⟩ : ∃ m, k = m + 1 := ⟨k - 1, by omega⟩
  obtain ⟨b, e1, e2⟩ := both_rise c k hn (by omega)
  simp only [spec_GoodPart.j1, impl_GoodPart.j1]
  have no : ∃ b, (some false : Option Bool) = some b ∧ (some false : Option Bool) = some b ∧ (b = true → s.size ≤ 20 ∧ c.length ≤ 20) := ⟨_, rfl, rfl, fun h => absurd h Bool.false_ne_true⟩
  by_cases ht : t = true
  · rw [if_pos ht, if_pos ht]
    by_cases h1 : s.toList = ([] : List UInt8)
    · rw [if_pos h1, if_pos h1]
      have := noBytes h1
      by_cases h2 : (c.length : Int) ≤ 20
      · rw [if_pos h2, if_pos h2, e1, e2]
        exact ⟨b, rfl, rfl, fun _ => by omega⟩
      · rw [if_neg h2, if_neg h2]
        exact no
    · rw [if_neg h1, if_neg h1]
      exact no
  · rw [if_neg ht, if_neg ht]
    by_cases hx : x = 4
    · rw [if_pos hx, if_pos hx]
      by_cases h1 : s.toList = ([] : List UInt8)
      · rw [if_pos h1, if_pos h1]
        have := noBytes h1
        by_cases h2 : (c.length : Int) = 1
        · rw [if_pos h2, if_pos h2, if_pos (by omega), if_pos (by omega), spec_l1In_eq, impl_in_eq]
          exact ⟨_, rfl, rfl, fun _ => by omega⟩
        · rw [if_neg h2, if_neg h2]
          exact no
      · rw [if_neg h1, if_neg h1]
        exact no
    · rw [if_neg hx, if_neg hx]
      exact no
theorem both_part (a : Int) (s : ByteArray) (c : List Int) (k : Nat) (hs : s.size ≤ 4611686018427387904) (hn : c.length ≤ 4611686018427387904) (hk : s.size + c.length + 2 < k) :
    ∃ b, spec_GoodPart.f k a s c = some b ∧ impl_GoodPart.f k a s c = some b ∧ (b = true → s.size ≤ 20 ∧ c.length ≤ 20) := by
  unfold spec_GoodPart.f impl_GoodPart.f
  by_cases h1 : a = 1
  · rw [if_pos h1, if_pos h1]
    obtain ⟨b, e1, e2, hb⟩ := both_name_l a s c hs s.size k 0 (by omega) (by omega)
    exact ⟨b, e1, e2, fun h => by have := hb h; omega⟩
  · rw [if_neg h1, if_neg h1]
    by_cases h2 : a = 2
    · rw [if_pos h2, if_pos h2]
      exact both_j1 _ _ _ _ _ _ hn (by omega)
    · rw [if_neg h2, if_neg h2]
      exact both_j1 _ _ _ _ _ _ hn (by omega)

-- toints
theorem toI_l (l : List Int) (hn : l.length ≤ 35184372088832) (d : Nat) : ∀ (k i : Nat) (m : List Int), i + d = l.length → m.length = l.length → m.take i = l.take i → d < k →
    laws_toIntS.l0 k l m i = some l := by
  induction d with
  | zero =>
    intro k i m h hm ht hk
    obtain ⟨k, rfl⟩ : ∃ m, k = m + 1 := ⟨k - 1, by omega⟩
    simp only [laws_toIntS.l0]
    rw [if_neg (by omega)]
    obtain rfl : i = l.length := by omega
    rw [List.take_length, ← hm, List.take_length] at ht
    rw [ht]
  | succ d ih =>
    intro k i m h hm ht hk
    obtain ⟨k, rfl⟩ : ∃ m, k = m + 1 := ⟨k - 1, by omega⟩
    simp only [laws_toIntS.l0]
    rw [if_pos (by omega), if_pos (by omega), if_pos (by omega), w64 (by omega) (by omega), show ((i : Int) + 1) = ((i + 1 : Nat) : Int) by omega]
    refine ih k (i + 1) _ (by omega) (by rw [List.length_set]; exact hm) ?_ (by omega)
    unfold rd
    rw [Int.toNat_natCast, List.take_set, List.take_succ_eq_append_getElem (by omega), List.take_succ_eq_append_getElem (by omega), ht,
      List.set_append_right _ _ (by rw [List.length_take]; omega)]
    simp [List.length_take, List.getD_eq_getElem?_getD, show i < l.length by omega, show min i l.length = i by omega]
theorem toI (l : List Int) (k : Nat) (hn : l.length ≤ 35184372088832) (hk : l.length < k) : laws_toIntS.f k l = some l := by
  unfold laws_toIntS.f
  rw [if_pos (by omega), if_pos (by omega)]
  exact toI_l l hn l.length k 0 _ (by omega) (by simp) (by simp) hk

-- upfrom
/-- n, n + 1, .., in so many places. -/
def upFrom (m : Int) (n : Nat) : List Int := (List.range n).map fun i : Nat => m + i
theorem upFrom_len (m : Int) (n : Nat) : (upFrom m n).length = n := by simp [upFrom]
theorem rd_nat (l : List Int) (i : Nat) : rd l i = l.getD i 0 := by simp [rd]
theorem rd_upFrom (m : Int) (n i : Nat) (h : i < n) : rd (upFrom m n) i = m + i := by
  simp [rd, upFrom, h]

-- eqi
theorem eqI_l (a b : List Int) (hl : a.length = b.length) (hn : a.length ≤ 4611686018427387904) (d : Nat) : ∀ (k i : Nat), i + d = a.length → d < k →
    laws_eqIntS.l0 k a b i = some (decide (a.drop i = b.drop i)) := by
  induction d with
  | zero =>
    intro k i h hk
    obtain ⟨k, rfl⟩ : ∃ m, k = m + 1 := ⟨k - 1, by omega⟩
    simp only [laws_eqIntS.l0]
    rw [if_neg (by omega), List.drop_of_length_le (by omega), List.drop_of_length_le (by omega)]
    simp
  | succ d ih =>
    intro k i h hk
    obtain ⟨k, rfl⟩ : ∃ m, k = m + 1 := ⟨k - 1, by omega⟩
    have h1 := ih k (i + 1) (by omega) (by omega)
    simp only [laws_eqIntS.l0]
    rw [if_pos (by omega), if_pos (by omega), if_pos (by omega), rd_nat, rd_nat, w64 (by omega) (by omega)]
    have ea : a.drop i = a.getD i 0 :: a.drop (i + 1) := by
      rw [List.getD_eq_getElem?_getD, List.getElem?_eq_getElem (by omega)]
      exact List.drop_eq_getElem_cons (by omega)
    have eb : b.drop i = b.getD i 0 :: b.drop (i + 1) := by
      rw [List.getD_eq_getElem?_getD, List.getElem?_eq_getElem (by omega)]
      exact List.drop_eq_getElem_cons (by omega)
    by_cases e : a.getD i 0 = b.getD i 0
    · rw [if_pos e]
      rw [show ((i : Int) + 1) = ((i + 1 : Nat) : Int) by omega, h1, ea, eb, e]
      simp
    · rw [if_neg e, ea, eb, decide_eq_false (fun h => e (List.cons.inj h).1)]
theorem eqI (a b : List Int) (k : Nat) (hn : a.length ≤ 4611686018427387904) (hk : a.length < k) : laws_eqIntS.f k a b = some (decide (a = b)) := by
  unfold laws_eqIntS.f
  by_cases hl : a.length = b.length
  · rw [if_pos (by omega)]
    simpa using eqI_l a b hl hn a.length k 0 (by omega) hk
  · rw [if_neg (by omega)]
    have : a ≠ b := fun e => hl (by rw [e])
    simp [this]

-- topart
theorem toPart_eq (a : Int) (s : ByteArray) (c : List Int) (k : Nat) (hn : c.length ≤ 35184372088832) (hk : c.length < k) : laws_toPart.f k a s c = some (a, s, c) := by
  unfold laws_toPart.f
  rw [toI _ _ hn hk]
  rfl
theorem eqPart_refl (a : Int) (s : ByteArray) (c : List Int) (k : Nat) (hn : c.length ≤ 4611686018427387904) (hk : c.length < k) : laws_eqPart.f k a s c a s c = some true := by
  unfold laws_eqPart.f
  rw [if_pos rfl, if_pos rfl, eqI _ _ _ hn hk]
  simp
/-- The room of a part: what is left, or less than nought. -/
theorem szPart_any (a : Int) (s : ByteArray) (c : List Int) (m : Int) (hs : s.size ≤ 140737488351232) (hc : c.length ≤ 140737488351232) (hm : 0 ≤ m ∧ m ≤ 1048576) :
    ∃ r, laws_szPart.f a s c m = some r ∧ (r < 0 ∨ (0 ≤ r ∧ r + s.size + c.length = m)) := by
  unfold laws_szPart.f laws_szIntS.f
  rw [w64 (x := m - (s.size : Int)) (by omega) (by omega), w64 (by omega) (by omega)]
  by_cases h1 : m - (s.size : Int) < 0
  · rw [if_pos h1]
    exact ⟨-1, rfl, Or.inl (by omega)⟩
  · rw [if_neg h1]
    by_cases h2 : m - (s.size : Int) - c.length < 0
    · rw [if_pos h2]
      exact ⟨-1, rfl, Or.inl (by omega)⟩
    · rw [if_neg h2]
      simp only [Option.bind_some]
      rw [if_neg h2]
      exact ⟨_, rfl, Or.inr (by omega)⟩

-- two
/-- Numbers as bytes, two each. -/
def two (l : List Int) : List Int := l.flatMap fun x => [x / 256 % 256, x % 256]
theorem two_len (l : List Int) : (two l).length = 2 * l.length := by
  unfold two
  induction l with
  | nil => rfl
  | cons a l ih => rw [List.flatMap_cons, List.length_append, ih]; simp; omega
theorem two_snoc (l : List Int) (x : Int) : two (l ++ [x]) = two l ++ [x / 256 % 256, x % 256] := by simp [two]

-- puts(spec_l2Put)
theorem spec_l2Put_l (l : List Int) (hn : l.length ≤ 1000000) (d : Nat) : ∀ (k i : Nat), i + d = l.length → d < k →
    spec_l2Put.l0 k (two (l.take i)) l l.length i = some (strOfNums (two l)) := by
  induction d with
  | zero =>
    intro k i h hk
    obtain ⟨k, rfl⟩ : ∃ m, k = m + 1 := ⟨k - 1, by omega⟩
    simp only [spec_l2Put.l0]
    rw [if_neg (by omega), List.take_of_length_le (by omega)]
  | succ d ih =>
    intro k i h hk
    obtain ⟨k, rfl⟩ : ∃ m, k = m + 1 := ⟨k - 1, by omega⟩
    have h1 := ih k (i + 1) (by omega) (by omega)
    have ea : l.take (i + 1) = l.take i ++ [rd l i] := by
      unfold rd
      rw [Int.toNat_natCast, List.getD_eq_getElem?_getD, List.getElem?_eq_getElem (by omega)]
      exact List.take_succ_eq_append_getElem (by omega)
    have hl := two_len (l.take i)
    have hl2 : (l.take i).length ≤ l.length := by rw [List.length_take]; omega
    simp only [spec_l2Put.l0]
    rw [if_pos (by omega), if_pos (by omega), if_pos (by omega)]
    simp only [Option.bind_some, List.length_cons, List.length_nil]
    rw [if_pos (by omega), ← two_snoc, ← ea, w64 (by omega) (by omega), show ((i : Int) + 1) = ((i + 1 : Nat) : Int) by omega]
    exact h1
theorem spec_l2Put_eq (l : List Int) (k : Nat) (hn : l.length ≤ 1000000) (hk : l.length < k) : spec_l2Put.f k l = some (strOfNums (two l)) := by
  have h := spec_l2Put_l l hn l.length k 0 (by omega) hk
  unfold spec_l2Put.f
  simpa [two] using h

-- puts(impl_numText)
theorem impl_numText_l (l : List Int) (hn : l.length ≤ 1000000) (d : Nat) : ∀ (k i : Nat), i + d = l.length → d < k →
    impl_numText.l0 k (two (l.take i)) l l.length i = some (strOfNums (two l)) := by
  induction d with
  | zero =>
    intro k i h hk
    obtain ⟨k, rfl⟩ : ∃ m, k = m + 1 := ⟨k - 1, by omega⟩
    simp only [impl_numText.l0]
    rw [if_neg (by omega), List.take_of_length_le (by omega)]
  | succ d ih =>
    intro k i h hk
    obtain ⟨k, rfl⟩ : ∃ m, k = m + 1 := ⟨k - 1, by omega⟩
    have h1 := ih k (i + 1) (by omega) (by omega)
    have ea : l.take (i + 1) = l.take i ++ [rd l i] := by
      unfold rd
      rw [Int.toNat_natCast, List.getD_eq_getElem?_getD, List.getElem?_eq_getElem (by omega)]
      exact List.take_succ_eq_append_getElem (by omega)
    have hl := two_len (l.take i)
    have hl2 : (l.take i).length ≤ l.length := by rw [List.length_take]; omega
    simp only [impl_numText.l0]
    rw [if_pos (by omega), if_pos (by omega), if_pos (by omega)]
    simp only [Option.bind_some, List.length_cons, List.length_nil]
    rw [if_pos (by omega), ← two_snoc, ← ea, w64 (by omega) (by omega), show ((i : Int) + 1) = ((i + 1 : Nat) : Int) by omega]
    exact h1
theorem impl_numText_eq (l : List Int) (k : Nat) (hn : l.length ≤ 1000000) (hk : l.length < k) : impl_numText.f k l = some (strOfNums (two l)) := by
  have h := impl_numText_l l hn l.length k 0 (by omega) hk
  unfold impl_numText.f
  simpa [two] using h

-- parttext
theorem strSize (l : List Int) : (strOfNums l).size = l.length := by
  simp [strOfNums, ByteArray.size]
/-- The text of a part, by either writer. -/
theorem both_text (a : Int) (s : ByteArray) (c : List Int) (k : Nat) (hs : s.size ≤ 20) (hc : c.length ≤ 20) (hk : 20 < k) :
    ∃ r, spec_l2Text.f k a s c = some r ∧ impl_partText.f k a s c = some r ∧ r.size ≤ 62 := by
  unfold spec_l2Text.f impl_partText.f
  rw [spec_l2Put_eq c k (by omega) (by omega), impl_numText_eq c k (by omega) (by omega)]
  have h2 : (strOfNums (two c)).size = 2 * c.length := by rw [strSize, two_len]
  simp only [Option.bind_some]
  rw [if_pos (by omega)]
  have h3 : (s ++ strOfNums (two c)).size = s.size + 2 * c.length := by rw [ByteArray.size_append, h2]
  generalize hz : s ++ strOfNums (two c) = z
  rw [hz] at h3
  have h4 : (strOfNums [a % 256, (z.size : Int) % 256]).size = 2 := by rw [strSize]; rfl
  rw [if_pos (by omega)]
  refine ⟨_, rfl, rfl, ?_⟩
  rw [ByteArray.size_append, h4]
  omega

-- helps
theorem set_take {α : Type} (m L : List α) (i : Nat) (hi : i < L.length) (hm : m.length = L.length) (ht : m.take i = L.take i) (v : α) (hv : L[i]? = some v) : (m.set i v).take (i + 1) = L.take (i + 1) := by
  rw [List.take_set, List.take_succ_eq_append_getElem (by omega), List.take_succ_eq_append_getElem hi, ht, List.set_append_right _ _ (by rw [List.length_take]; omega)]
  rw [List.length_take, show i - min i L.length = 0 by omega]
  rw [List.getElem?_eq_getElem hi] at hv
  rw [Option.some.inj hv]
  rfl
/-- From some number of rounds on: one number for a pair. -/
theorem ev_at {α : Type} {g : Nat → Option α} {r : α} (h : Ev g r) : ∃ K, ∀ k, K ≤ k → g k = some r := h
theorem ev_some {α : Type} {g : Nat → Option α} {r : α} (h : ∀ k, g k = some r) : Ev g r := ⟨0, fun k _ => h k⟩
theorem ev_ge {α : Type} {g : Nat → Option α} {r : α} (K : Nat) (h : ∀ k, K ≤ k → g k = some r) : Ev g r := ⟨K, h⟩

-- rdt(35)
theorem rd_T35_at (l : List S35) (i : Nat) (h : i < l.length) : rd_T35 l i = l[i] := by
  simp [rd_T35, List.getD_eq_getElem?_getD, List.getElem?_eq_getElem h]

-- rdt(38)
theorem rd_T38_at (l : List S38) (i : Nat) (h : i < l.length) : rd_T38 l i = l[i] := by
  simp [rd_T38, List.getD_eq_getElem?_getD, List.getElem?_eq_getElem h]

-- toparts
def cvP (x : S35) : S38 := ⟨x.f0, x.f1, x.f2⟩
theorem mapAt (l : List S35) (i : Nat) (h : i < l.length) : rd_T38 (l.map cvP) i = cvP l[i] := by
  rw [rd_T38_at _ _ (by rw [List.length_map]; exact h), List.getElem_map]
theorem toParts_l (l : List S35) (B : Nat) (hn : l.length ≤ 4611686018427387904) (hB : B ≤ 35184372088832) (hb : ∀ x ∈ l, x.f2.length ≤ B) (d : Nat) : ∀ (k i : Nat) (m : List S38), i + d = l.length → m.length = l.length → m.take i = (l.map cvP).take i → d + B + 1 < k →
    laws_toPartS.l0 k l m i = some (l.map cvP) := by
  induction d with
  | zero =>
    intro k i m h hm ht hk
    obtain ⟨k, rfl⟩ : ∃ m, k = m + 1 := ⟨k - 1, by omega⟩
    simp only [laws_toPartS.l0]
    rw [if_neg (by omega)]
    rw [List.take_of_length_le (by omega), List.take_of_length_le (by rw [List.length_map]; omega)] at ht
    rw [ht]
  | succ d ih =>
    intro k i m h hm ht hk
    obtain ⟨k, rfl⟩ : ∃ m, k = m + 1 := ⟨k - 1, by omega⟩
    have hx := hb (l[i]'(by omega)) (List.getElem_mem (by omega))
    simp only [laws_toPartS.l0]
    rw [if_pos (by omega), if_pos (by omega), rd_T35_at l i (by omega), toPart_eq _ _ _ _ (by omega) (by omega)]
    simp only [Option.bind_some]
    rw [if_pos (by omega), w64 (by omega) (by omega), show ((i : Int) + 1) = ((i + 1 : Nat) : Int) by omega]
    refine ih k (i + 1) _ (by omega) (by rw [List.length_set]; exact hm) ?_ (by omega)
    rw [Int.toNat_natCast]
    exact set_take _ _ i (by rw [List.length_map]; omega) (by rw [List.length_map]; exact hm) ht _ (by rw [List.getElem?_map, List.getElem?_eq_getElem (by omega)]; rfl)
theorem toParts_eq (l : List S35) (B k : Nat) (hn : l.length ≤ 5864062014805) (hB : B ≤ 35184372088832) (hb : ∀ x ∈ l, x.f2.length ≤ B) (hk : l.length + B + 1 < k) : laws_toPartS.f k l = some (l.map cvP) := by
  unfold laws_toPartS.f
  have h0 : (0 : Int) ≤ (l.length : Int) := by omega
  have h1 : ((l.length : Int) : Int).toNat ≤ 5864062014805 := by rw [Int.toNat_natCast]; exact hn
  rw [if_pos h0, if_pos h1]
  exact toParts_l l B (by omega) hB hb l.length k 0 _ (by omega) (by simp) (by simp) hk
theorem eqParts_l (l : List S38) (B : Nat) (hn : l.length ≤ 4611686018427387904) (hB : B ≤ 4611686018427387904) (hb : ∀ x ∈ l, x.f2.length ≤ B) (d : Nat) : ∀ (k i : Nat), i + d = l.length → d + B + 1 < k → laws_eqPartS.l0 k l l i = some true := by
  induction d with
  | zero =>
    intro k i h hk
    obtain ⟨k, rfl⟩ : ∃ m, k = m + 1 := ⟨k - 1, by omega⟩
    simp only [laws_eqPartS.l0]
    rw [if_neg (by omega)]
  | succ d ih =>
    intro k i h hk
    obtain ⟨k, rfl⟩ : ∃ m, k = m + 1 := ⟨k - 1, by omega⟩
    have h1 := ih k (i + 1) (by omega) (by omega)
    have hx := hb (l[i]'(by omega)) (List.getElem_mem (by omega))
    simp only [laws_eqPartS.l0]
    rw [if_pos (by omega), if_pos (by omega), if_pos (by omega), rd_T38_at l i (by omega), eqPart_refl _ _ _ _ (by omega) (by omega), w64 (by omega) (by omega), show ((i : Int) + 1) = ((i + 1 : Nat) : Int) by omega, h1]
    simp
theorem eqParts_refl (l : List S38) (B k : Nat) (hn : l.length ≤ 4611686018427387904) (hB : B ≤ 4611686018427387904) (hb : ∀ x ∈ l, x.f2.length ≤ B) (hk : l.length + B + 1 < k) : laws_eqPartS.f k l l = some true := by
  unfold laws_eqPartS.f
  rw [if_pos rfl]
  exact eqParts_l l B hn hB hb l.length k 0 (by omega) hk
theorem szParts_l (l : List S35) (hn : l.length ≤ 4611686018427387904) (hl : ∀ x ∈ l, x.f1.size ≤ 140737488351232 ∧ x.f2.length ≤ 140737488351232) (d : Nat) : ∀ (k i : Nat) (m : Int), i + d = l.length → 0 ≤ m ∧ m ≤ 1048576 → d < k →
    ∃ r, laws_szPartS.l0 k l m i = some r ∧ (r < 0 ∨ (0 ≤ r ∧ ∀ x ∈ l.drop i, x.f1.size ≤ 1048576 ∧ x.f2.length ≤ 1048576)) := by
  induction d with
  | zero =>
    intro k i m h hm hk
    obtain ⟨k, rfl⟩ : ∃ m, k = m + 1 := ⟨k - 1, by omega⟩
    simp only [laws_szPartS.l0]
    rw [if_neg (by omega), List.drop_of_length_le (by omega)]
    exact ⟨m, rfl, Or.inr ⟨hm.1, fun x hx => absurd hx (List.not_mem_nil)⟩⟩
  | succ d ih =>
    intro k i m h hm hk
    obtain ⟨k, rfl⟩ : ∃ m, k = m + 1 := ⟨k - 1, by omega⟩
    have hx := hl (l[i]'(by omega)) (List.getElem_mem (by omega))
    simp only [laws_szPartS.l0]
    rw [if_pos (by omega), if_pos (by omega), w64 (x := (i : Int) + 1) (by omega) (by omega), show ((i : Int) + 1) = ((i + 1 : Nat) : Int) by omega, rd_T35_at l i (by omega)]
    obtain ⟨z, hz, hc⟩ := szPart_any (l[i]'(by omega)).f0 (l[i]'(by omega)).f1 (l[i]'(by omega)).f2 m hx.1 hx.2 hm
    rw [hz]
    simp only [Option.bind_some]
    by_cases h0 : z < 0
    · rw [if_pos h0]
      exact ⟨-1, rfl, Or.inl (by omega)⟩
    · rw [if_neg h0]
      obtain ⟨r, hr, hd⟩ := ih k (i + 1) z (by omega) (by omega) (by omega)
      refine ⟨r, hr, ?_⟩
      rcases hd with hd | ⟨hd, hx2⟩
      · exact Or.inl hd
      · refine Or.inr ⟨hd, fun x hx => ?_⟩
        rw [List.drop_eq_getElem_cons (by omega)] at hx
        rcases List.mem_cons.1 hx with rfl | hx
        · omega
        · exact hx2 x hx
theorem szParts_any (l : List S35) (k : Nat) (hn : l.length ≤ 140737488351232) (hl : ∀ x ∈ l, x.f1.size ≤ 140737488351232 ∧ x.f2.length ≤ 140737488351232) (hk : l.length < k) :
    ∃ r, laws_szPartS.f k l 1048576 = some r ∧ (r < 0 ∨ (0 ≤ r ∧ ∀ x ∈ l, x.f1.size ≤ 1048576 ∧ x.f2.length ≤ 1048576)) := by
  unfold laws_szPartS.f
  rw [w64 (by omega) (by omega)]
  by_cases h : 1048576 - (l.length : Int) < 0
  · rw [if_pos h]
    exact ⟨-1, rfl, Or.inl (by omega)⟩
  · rw [if_neg h]
    have := szParts_l l (by omega) hl l.length k 0 (1048576 - (l.length : Int)) (by omega) (by omega) hk
    simpa using this

theorem both_good_l (l : List S38) (B : Nat) (hn : l.length ≤ 4611686018427387904) (hB : B ≤ 1048576) (hb : ∀ x ∈ l, x.f1.size ≤ B ∧ x.f2.length ≤ B) (d : Nat) : ∀ (k i : Nat), i + d = l.length → d + 2 * B + 3 < k →
    ∃ b, spec_l2Good.l0 k l l l.length i = some b ∧ impl_areParts.l0 k l l l.length i = some b ∧ (b = true → l.length ≤ 10 ∧ ∀ x ∈ l.drop i, x.f1.size ≤ 20 ∧ x.f2.length ≤ 20) := by
  induction d with
  | zero =>
    intro k i h hk
    obtain ⟨k, rfl⟩ : ∃ m, k = m + 1 := ⟨k - 1, by omega⟩
    simp only [spec_l2Good.l0, impl_areParts.l0]
    rw [if_neg (by omega), if_neg (by omega), List.drop_of_length_le (by omega)]
    exact ⟨_, rfl, rfl, fun h => ⟨by have := of_decide_eq_true h; omega, fun x hx => absurd hx (List.not_mem_nil)⟩⟩
  | succ d ih =>
    intro k i h hk
    obtain ⟨k, rfl⟩ : ∃ m, k = m + 1 := ⟨k - 1, by omega⟩
    obtain ⟨b, e1, e2, hd⟩ := ih k (i + 1) (by omega) (by omega)
    have hx := hb (l[i]'(by omega)) (List.getElem_mem (by omega))
    obtain ⟨p, p1, p2, hp⟩ := both_part (l[i]'(by omega)).f0 (l[i]'(by omega)).f1 (l[i]'(by omega)).f2 k (by omega) (by omega) (by omega)
    have g1 : (i : Int) < l.length := by omega
    have g2 : (0 : Int) ≤ i := by omega
    simp only [spec_l2Good.l0, impl_areParts.l0]
    rw [if_pos g1, if_pos g2, if_pos g1, if_pos g1, if_pos g2, if_pos g1, rd_T38_at l i (by omega), p1, p2, w64 (by omega) (by omega), show ((i : Int) + 1) = ((i + 1 : Nat) : Int) by omega, e1, e2]
    simp only [Option.bind_some]
    by_cases h1 : p = true
    · rw [if_pos h1]
      refine ⟨b, rfl, rfl, fun h => ?_⟩
      obtain ⟨q1, q2⟩ := hd h
      refine ⟨q1, fun x hx => ?_⟩
      rw [List.drop_eq_getElem_cons (by omega)] at hx
      rcases List.mem_cons.1 hx with rfl | hx
      · exact hp h1
      · exact q2 x hx
    · rw [if_neg h1]
      exact ⟨_, rfl, rfl, fun h => absurd h Bool.false_ne_true⟩
theorem both_frame_l (l : List S38) (hn : l.length ≤ 10) (hb : ∀ x ∈ l, x.f1.size ≤ 20 ∧ x.f2.length ≤ 20) (d : Nat) : ∀ (k i : Nat) (t : ByteArray), i + d = l.length → t.size ≤ 62 * i → d + 21 < k →
    ∃ r : ByteArray × Bool, spec_FrameText.l0 k t l l.length i = some r ∧ impl_FrameText.l0 k t l l.length i = some r := by
  induction d with
  | zero =>
    intro k i t h ht hk
    obtain ⟨k, rfl⟩ : ∃ m, k = m + 1 := ⟨k - 1, by omega⟩
    have g1 : ¬ (i : Int) < l.length := by omega
    simp only [spec_FrameText.l0, impl_FrameText.l0]
    rw [if_neg g1, if_neg g1]
    by_cases h1 : (t.size : Int) > 200
    · rw [if_pos h1]
      exact ⟨_, rfl, rfl⟩
    · rw [if_neg h1]
      exact ⟨_, rfl, rfl⟩
  | succ d ih =>
    intro k i t h ht hk
    obtain ⟨k, rfl⟩ : ∃ m, k = m + 1 := ⟨k - 1, by omega⟩
    have hx := hb (l[i]'(by omega)) (List.getElem_mem (by omega))
    obtain ⟨r, r1, r2, hr⟩ := both_text (l[i]'(by omega)).f0 (l[i]'(by omega)).f1 (l[i]'(by omega)).f2 k hx.1 hx.2 (by omega)
    have g1 : (i : Int) < l.length := by omega
    have g2 : (0 : Int) ≤ i := by omega
    have g3 : t.size + r.size ≤ 9223372036854775807 := by omega
    have g4 : (t ++ r).size ≤ 62 * (i + 1) := by rw [ByteArray.size_append]; omega
    obtain ⟨z, e1, e2⟩ := ih k (i + 1) (t ++ r) (by omega) g4 (by omega)
    simp only [spec_FrameText.l0, impl_FrameText.l0]
    rw [if_pos g1, if_pos g2, if_pos g1, if_pos g1, if_pos g2, if_pos g1, rd_T38_at l i (by omega), r1, r2, w64 (by omega) (by omega), show ((i : Int) + 1) = ((i + 1 : Nat) : Int) by omega]
    simp only [Option.bind_some]
    rw [if_pos g3, if_pos g3, e1, e2]
    exact ⟨z, rfl, rfl⟩
theorem both_FrameText (l : List S38) (k : Nat) (hn : l.length ≤ 4611686018427387904) (hb : ∀ x ∈ l, x.f1.size ≤ 1048576 ∧ x.f2.length ≤ 1048576) (hk : l.length + 2097200 < k) :
    ∃ r : ByteArray × Bool, spec_FrameText.f k l = some r ∧ impl_FrameText.f k l = some r := by
  obtain ⟨b, e1, e2, h⟩ := both_good_l l 1048576 hn (by omega) hb l.length k 0 (by omega) (by omega)
  unfold spec_FrameText.f impl_FrameText.f spec_l2Good.f impl_areParts.f
  rw [show (0 : Int) = ((0 : Nat) : Int) by rfl, e1, e2]
  simp only [Option.bind_some]
  by_cases hb : b = true
  · rw [if_pos hb, if_pos hb]
    obtain ⟨h1, h2⟩ := h hb
    exact both_frame_l l h1 (by simpa using h2) l.length k 0 _ (by omega) (by simp [ByteArray.size]) (by omega)
  · rw [if_neg hb, if_neg hb]
    exact ⟨_, rfl, rfl⟩
theorem FnExactFrameText : laws_FnExactFrameText.PureS := by
  intro l ⟨hl, hb⟩
  obtain ⟨K, hK⟩ : ∃ K, K = l.length + 2097200 := ⟨_, rfl⟩
  have hs : ∀ x ∈ l, x.f1.size ≤ 140737488351232 ∧ x.f2.length ≤ 140737488351232 := by
    intro x hx
    obtain ⟨_, h1, h2, _⟩ := hb x hx
    omega
  have hm : (l.map cvP).length = l.length := List.length_map _
  refine ⟨K + 1, ?_⟩
  obtain ⟨r, hr, hc⟩ := szParts_any l (K + 1) (by omega) hs (by omega)
  unfold laws_FnExactFrameText.f
  rw [hr]
  simp only [Option.bind_some]
  by_cases h0 : r < 0
  · rw [if_pos h0]
  · rw [if_neg h0]
    rcases hc with hc | ⟨_, hc⟩
    · exact absurd hc h0
    · have hx : ∀ x ∈ l.map cvP, x.f1.size ≤ 1048576 ∧ x.f2.length ≤ 1048576 := by
        intro x hx
        obtain ⟨y, hy, rfl⟩ := List.mem_map.1 hx
        exact hc y hy
      have t1 := toParts_eq l 1048576 (K + 1) (by omega) (by omega) (fun x h => (hc x h).2) (by omega)
      have t2 := toParts_eq l 1048576 K (by omega) (by omega) (fun x h => (hc x h).2) (by omega)
      have t3 := eqParts_refl (l.map cvP) 1048576 K (by omega) (by omega) (fun x h => (hx x h).2) (by omega)
      obtain ⟨b, e1, e2⟩ := both_FrameText (l.map cvP) (K + 1) (by omega) hx (by omega)
      rw [t1]
      simp only [Option.bind_some]
      rw [e1, e2]
      simp only [Option.bind_some, bne_self_eq_false, if_true, laws_FnExactFrameText.j0, Bool.false_eq_true, if_false]
      rw [t2]
      simp only [Option.bind_some]
      rw [t3]
      simp

end Go.Proofs.Ytajfpfmbmkmafaa.Pure
