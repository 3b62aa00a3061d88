/- FnExactReadFrame answers true for each text. No condition beyond the row's own bounds. -/
import Derived.Test.YtajfpfmbmkmafaaSFnExactReadFrame
namespace Go.Proofs.Ytajfpfmbmkmafaa.Pure
open Go.RowKit Go.Proofs.Ytajfpfmbmkmafaa.PFnExactReadFrame Go.Proofs.YtajfpfmbmkmafaaW.PrintWords Go.Proofs.YtajfpfmbmkmafaaW.PrintLast
set_option linter.unusedVariables false
set_option linter.unusedSimpArgs false

-- w64
theorem w64 {x : Int} (h0 : -9223372036854775808 ≤ x) (h1 : x ≤ 9223372036854775807) : wrap64 x = x := by
  unfold wrap64
  omega
theorem tm {x y : Int} (h0 : 0 ≤ x) : Int.tmod x y = x % y := Int.tmod_eq_emod_of_nonneg h0
theorem wf64 {x : Int} (h : (Lit.int .i64 x).wf = true) : -9223372036854775808 ≤ x ∧ x ≤ 9223372036854775807 := by
  simp [Lit.wf, IntKind.min, IntKind.max, IntKind.signed, IntKind.bits] at h
  omega

-- bits16
theorem wraps_i64 (n : Int) (h₀ : 0 ≤ n) (h₁ : n < 2 ^ 20) : IntKind.i64.wrap n = n := by
  have h : n < 1048576 := h₁
  rw [IntKind.wrap_i64]
  omega
/-- Two bytes beside each other: 'or' of them is their sum. -/
theorem or16 (x y : Int) (hx : 0 ≤ x ∧ x ≤ 255) (hy : 0 ≤ y ∧ y ≤ 255) : Go.bits .or .i64 (x * 256) y = x * 256 + y := by
  have e8 : (2 : Int) ^ 8 = 256 := rfl
  have e20 : (2 : Int) ^ 20 = 1048576 := rfl
  exact bits_join .i64 20 (by decide) wraps_i64 8 (x * 256) y (by omega) (by rw [e8]; omega) (by rw [e20]; omega) (by omega) (by rw [e8]; omega) (by rw [e20]; omega)

-- tk
/-- The numbers of a text, two bytes each, from a place on. -/
def tk (s : ByteArray) (i : Nat) : Nat → List Int
  | 0 => []
  | n + 1 => (bt s i * 256 + bt s (i + 1 : Nat)) :: tk s (i + 2) n
theorem tk_snoc (s : ByteArray) : ∀ (n i : Nat), tk s i (n + 1) = tk s i n ++ [bt s (i + 2 * n : Nat) * 256 + bt s (i + 2 * n + 1 : Nat)]
  | 0, i => by simp [tk]
  | n + 1, i => by
    have h := tk_snoc s n (i + 2)
    rw [tk, h]
    simp only [tk, List.cons_append]
    rw [show i + 2 + 2 * n = i + 2 * (n + 1) by omega]
theorem tk_len (s : ByteArray) : ∀ (n i : Nat), (tk s i n).length = n
  | 0, i => rfl
  | n + 1, i => by simp [tk, tk_len s n]

-- impltake
theorem impl_take_l (s : ByteArray) (hs : s.size ≤ 40) (d : Nat) : ∀ (k n : Nat), 2 * n + 2 * d = s.size → d < k →
    impl_TakeNums.l0 k s (tk s 0 n) (2 * n : Nat) = some (tk s 0 (s.size / 2), true) := by
  induction d with
  | zero =>
    intro k n h hk
    obtain ⟨k, rfl⟩ : ∃ m, k = m + 1 := ⟨k - 1, by omega⟩
    simp only [impl_TakeNums.l0]
    rw [if_neg (by omega)]
    obtain rfl : n = s.size / 2 := by omega
    rfl
  | succ d ih =>
    intro k n h hk
    obtain ⟨k, rfl⟩ : ∃ m, k = m + 1 := ⟨k - 1, by omega⟩
    have h1 := ih k (n + 1) (by omega) (by omega)
    have b0 := bt_range s (2 * n : Nat)
    have b1 := bt_range s (2 * n + 1 : Nat)
    simp only [impl_TakeNums.l0]
    rw [w64 (x := ((2 * n : Nat) : Int) + 1) (by omega) (by omega), if_pos (by omega), if_pos (by omega), if_pos (by omega), if_pos (by omega), if_pos (by rw [tk_len]; omega)]
    rw [show ((2 * n : Nat) : Int) + 1 = ((2 * n + 1 : Nat) : Int) by omega, w64 (x := bt s (2 * n : Nat)) (by omega) (by omega), w64 (x := bt s (2 * n : Nat) * 256) (by omega) (by omega), w64 (x := bt s (2 * n + 1 : Nat)) (by omega) (by omega),
      or16 _ _ b0 b1, w64 (by omega) (by omega)]
    have e := tk_snoc s n 0
    rw [Nat.zero_add] at e
    rw [← e, show ((2 * n : Nat) : Int) + 2 = ((2 * (n + 1) : Nat) : Int) by omega]
    exact h1
theorem impl_TakeNums_f (s : ByteArray) (k : Nat) (hk : s.size + 1 < k) : impl_TakeNums.f k s = some (if s.size ≤ 40 ∧ s.size % 2 = 0 then (tk s 0 (s.size / 2), true) else ([], false)) := by
  obtain ⟨k, rfl⟩ : ∃ m, k = m + 1 := ⟨k - 1, by omega⟩
  unfold impl_TakeNums.f
  by_cases h : s.size ≤ 40
  · rw [if_neg (by omega)]
    simp only [impl_TakeNums.j0]
    by_cases h2 : s.size % 2 = 0
    · rw [if_neg (by simp; omega), if_pos ⟨h, h2⟩]
      have h := impl_take_l s h (s.size / 2) k 0 (by omega) (by omega)
      simpa [tk] using h
    · rw [if_pos (by simp; omega), if_neg (fun e => h2 e.2)]
  · rw [if_pos (by omega), if_neg (fun e => h e.1)]
    simp only [impl_TakeNums.j0]
    simp

-- inrange(spec_l1In)
theorem spec_l1In_eq (a lo hi : Int) : spec_l1In.f a lo hi = some (decide (lo ≤ a ∧ a ≤ hi)) := by
  unfold spec_l1In.f
  by_cases h : lo ≤ a
  · rw [if_pos (show a ≥ lo from h)]
    simp [h]
  · rw [if_neg (show ¬ a ≥ lo from h)]
    simp [h]

-- inrange(impl_in)
theorem impl_in_eq (a lo hi : Int) : impl_in.f a lo hi = some (decide (lo ≤ a ∧ a ≤ hi)) := by
  unfold impl_in.f
  by_cases h : lo ≤ a
  · rw [if_pos (show a ≥ lo from h)]
    simp [h]
  · rw [if_neg (show ¬ a ≥ lo from h)]
    simp [h]

-- allin(impl_allIn,impl_in)
theorem impl_allIn_l (lo hi : Int) (l : List Int) (hn : l.length ≤ 4611686018427387904) (d : Nat) : ∀ (k i : Nat), i + d = l.length → d < k →
    impl_allIn.l0 k lo hi l l.length i = some ((l.drop i).all fun x => decide (lo ≤ x ∧ x ≤ hi)) := by
  induction d with
  | zero =>
    intro k i h hk
    obtain ⟨k, rfl⟩ : ∃ m, k = m + 1 := ⟨k - 1, by omega⟩
    simp only [impl_allIn.l0]
    rw [if_neg (by omega), List.drop_of_length_le (by omega)]
    rfl
  | succ d ih =>
    intro k i h hk
    obtain ⟨k, rfl⟩ : ∃ m, k = m + 1 := ⟨k - 1, by omega⟩
    have h1 := ih k (i + 1) (by omega) (by omega)
    have ea : l.drop i = rd l i :: l.drop (i + 1) := by
      unfold rd
      rw [Int.toNat_natCast, List.getD_eq_getElem?_getD, List.getElem?_eq_getElem (by omega)]
      exact List.drop_eq_getElem_cons (by omega)
    simp only [impl_allIn.l0]
    rw [if_pos (by omega), if_pos (by omega), if_pos (by omega), impl_in_eq, ea, List.all_cons]
    simp only [Option.bind_some]
    by_cases e : lo ≤ rd l i ∧ rd l i ≤ hi
    · rw [decide_eq_true e]
      simp only [if_true, Bool.true_and]
      rw [w64 (by omega) (by omega), show ((i : Int) + 1) = ((i + 1 : Nat) : Int) by omega]
      exact h1
    · rw [decide_eq_false e]
      simp
theorem impl_allIn_eq (l : List Int) (lo hi : Int) (k : Nat) (hn : l.length ≤ 4611686018427387904) (hk : l.length < k) : impl_allIn.f k l lo hi = some (l.all fun x => decide (lo ≤ x ∧ x ≤ hi)) := by
  have h := impl_allIn_l lo hi l hn l.length k 0 (by omega) hk
  unfold impl_allIn.f
  simpa using h

-- goodpart
theorem noBytes {s : ByteArray} (h : s.toList = ([] : List UInt8)) : s.size = 0 := by
  rw [ByteArray.toList_eq] at h
  have h2 := congrArg List.length h
  simpa using h2
theorem spec_rise_l (c : List Int) (lo hi : Int) (hn : c.length ≤ 4611686018427387904) (d : Nat) : ∀ (k i : Nat), i + d = c.length → d < k →
    ∃ b, spec_l1Rising.l0 k c lo hi c c.length i = some b ∧ (b = true ↔ ∀ j : Nat, i ≤ j → j < c.length → (lo ≤ rd c (j : Int) ∧ rd c (j : Int) ≤ hi) ∧ (0 < j → rd c ((j : Int) - 1) < rd c (j : Int))) := by
  induction d with
  | zero =>
    intro k i h hk
    obtain ⟨k, rfl⟩ : ∃ m, k = m + 1 := ⟨k - 1, by omega⟩
    simp only [spec_l1Rising.l0]
    rw [if_neg (by omega)]
    exact ⟨true, rfl, fun _ j h1 h2 => absurd h2 (by omega), fun _ => rfl⟩
  | succ d ih =>
    intro k i h hk
    obtain ⟨k, rfl⟩ : ∃ m, k = m + 1 := ⟨k - 1, by omega⟩
    obtain ⟨b, e, hb⟩ := ih k (i + 1) (by omega) (by omega)
    simp only [spec_l1Rising.l0, spec_l1In_eq]
    rw [if_pos (by omega), if_pos (by omega), if_pos (by omega)]
    simp only [Option.bind_some]
    rw [w64 (x := (i : Int) + 1) (by omega) (by omega), w64 (x := (i : Int) - 1) (by omega) (by omega), show ((i : Int) + 1) = ((i + 1 : Nat) : Int) by omega, e]
    by_cases h1 : lo ≤ rd c (i : Int) ∧ rd c (i : Int) ≤ hi
    · rw [if_pos (decide_eq_true h1)]
      by_cases h2 : (i : Int) > 0
      · rw [if_pos h2, if_pos (by omega), if_pos (by omega)]
        by_cases h3 : rd c ((i : Int) - 1) ≥ rd c (i : Int)
        · rw [if_pos h3]
          exact ⟨false, rfl, fun h => absurd h Bool.false_ne_true, fun h => absurd ((h i (Nat.le_refl _) (by omega)).2 (by omega)) (by omega)⟩
        · rw [if_neg h3]
          refine ⟨b, rfl, hb.trans ⟨fun h j g1 g2 => ?_, fun h j g1 g2 => h j (by omega) g2⟩⟩
          by_cases g : j = i
          · subst g
            exact ⟨h1, fun _ => by omega⟩
          · exact h j (by omega) g2
      · rw [if_neg h2]
        refine ⟨b, rfl, hb.trans ⟨fun h j g1 g2 => ?_, fun h j g1 g2 => h j (by omega) g2⟩⟩
        by_cases g : j = i
        · subst g
          exact ⟨h1, fun _ => by omega⟩
        · exact h j (by omega) g2
    · rw [decide_eq_false h1, if_neg Bool.false_ne_true]
      exact ⟨false, rfl, fun h => absurd h Bool.false_ne_true, fun h => absurd ((h i (Nat.le_refl _) (by omega)).1) h1⟩
theorem impl_rise_l (c : List Int) (hn : c.length ≤ 4611686018427387904) (d : Nat) : ∀ (k i : Nat), c.length ≤ i + d → 1 ≤ i → i ≤ c.length + 1 → d < k →
    ∃ b, impl_rising.l0 k c i = some b ∧ (b = true ↔ ∀ j : Nat, i ≤ j → j < c.length → rd c ((j : Int) - 1) < rd c (j : Int)) := by
  induction d with
  | zero =>
    intro k i h hi hi2 hk
    obtain ⟨k, rfl⟩ : ∃ m, k = m + 1 := ⟨k - 1, by omega⟩
    simp only [impl_rising.l0]
    rw [if_neg (by omega)]
    exact ⟨true, rfl, fun _ j h1 h2 => absurd h2 (by omega), fun _ => rfl⟩
  | succ d ih =>
    intro k i h hi hi2 hk
    obtain ⟨k, rfl⟩ : ∃ m, k = m + 1 := ⟨k - 1, by omega⟩
    simp only [impl_rising.l0]
    by_cases h0 : (i : Int) < c.length
    · obtain ⟨b, e, hb⟩ := ih k (i + 1) (by omega) (by omega) (by omega) (by omega)
      rw [if_pos h0, w64 (x := (i : Int) + 1) (by omega) (by omega), w64 (x := (i : Int) - 1) (by omega) (by omega), show ((i : Int) + 1) = ((i + 1 : Nat) : Int) by omega, e, if_pos (by omega), if_pos (by omega), if_pos (by omega)]
      by_cases h3 : rd c ((i : Int) - 1) ≥ rd c (i : Int)
      · rw [if_pos h3]
        exact ⟨false, rfl, fun h => absurd h Bool.false_ne_true, fun h => absurd ((h i (Nat.le_refl _) (by omega))) (by omega)⟩
      · rw [if_neg h3]
        refine ⟨b, rfl, hb.trans ⟨fun h j g1 g2 => ?_, fun h j g1 g2 => h j (by omega) g2⟩⟩
        by_cases g : j = i
        · subst g
          omega
        · exact h j (by omega) g2
    · rw [if_neg h0]
      exact ⟨true, rfl, fun _ j h1 h2 => absurd h2 (by omega), fun _ => rfl⟩
theorem both_rise (c : List Int) (k : Nat) (hn : c.length ≤ 4611686018427387904) (hk : c.length + 1 < k) :
    ∃ b, spec_l1Rising.f k c 0 65535 = some b ∧ ((impl_rising.f k c).bind fun t => if t = true then ((impl_allIn.f k c 0 65535).bind fun u => some u) else some false) = some b := by
  obtain ⟨b, e, hb⟩ := spec_rise_l c 0 65535 hn c.length k 0 (by omega) (by omega)
  obtain ⟨b2, e2, hb2⟩ := impl_rise_l c hn c.length k 1 (by omega) (by omega) (by omega) (by omega)
  refine ⟨b, e, ?_⟩
  unfold impl_rising.f
  rw [show (1 : Int) = ((1 : Nat) : Int) by rfl, e2, impl_allIn_eq _ _ _ _ hn (by omega)]
  simp only [Option.bind_some]
  have ha : (c.all fun x => decide (0 ≤ x ∧ x ≤ 65535)) = true ↔ ∀ j : Nat, j < c.length → 0 ≤ rd c (j : Int) ∧ rd c (j : Int) ≤ 65535 := by
    rw [List.all_eq_true]
    constructor
    · intro h j hj
      have := h c[j] (List.getElem_mem hj)
      unfold rd
      rw [Int.toNat_natCast, List.getD_eq_getElem?_getD, List.getElem?_eq_getElem hj]
      simpa using this
    · intro h x hx
      obtain ⟨j, hj, rfl⟩ := List.mem_iff_getElem.1 hx
      have := h j hj
      unfold rd at this
      rw [Int.toNat_natCast, List.getD_eq_getElem?_getD, List.getElem?_eq_getElem hj] at this
      simpa using this
  by_cases h2 : b2 = true
  · rw [if_pos h2]
    congr 1
    rw [Bool.eq_iff_iff, ha, hb]
    rw [hb2] at h2
    exact ⟨fun h j _ hj => ⟨h j hj, fun h0 => h2 j (by omega) hj⟩, fun h j hj => (h j (by omega) hj).1⟩
  · rw [if_neg h2]
    congr 1
    symm
    rw [Bool.eq_false_iff]
    intro h
    rw [hb] at h
    rw [hb2] at h2
    exact h2 fun j h1 hj => (h j (by omega) hj).2 (by omega)
theorem both_name_l (a : Int) (s : ByteArray) (c : List Int) (hn : s.size ≤ 4611686018427387904) (d : Nat) : ∀ (k i : Nat), i + d = s.size → d < k →
    ∃ b, spec_GoodPart.l0 k i a s c = some b ∧ impl_GoodPart.l0 k s.size i a s c = some b ∧ (b = true → s.size ≤ 20 ∧ c.length = 0) := by
  induction d with
  | zero =>
    intro k i h hk
    obtain ⟨k, rfl⟩ : ∃ m, k = m + 1 := ⟨k - 1, by omega⟩
    simp only [spec_GoodPart.l0, impl_GoodPart.l0, spec_l1In_eq, impl_in_eq]
    rw [if_neg (by omega), if_neg (by omega)]
    simp only [Option.bind_some]
    by_cases h1 : (1 : Int) ≤ s.size ∧ (s.size : Int) ≤ 20
    · rw [decide_eq_true h1]
      simp only [if_true]
      exact ⟨_, rfl, rfl, fun h => ⟨by omega, by have := of_decide_eq_true h; simpa using h⟩⟩
    · rw [decide_eq_false h1]
      simp only [Bool.false_eq_true, if_false]
      exact ⟨_, rfl, rfl, fun h => absurd h Bool.false_ne_true⟩
  | succ d ih =>
    intro k i h hk
    obtain ⟨k, rfl⟩ : ∃ m, k = m + 1 := ⟨k - 1, by omega⟩
    obtain ⟨b, e, e2, hb⟩ := ih k (i + 1) (by omega) (by omega)
    simp only [spec_GoodPart.l0, impl_GoodPart.l0]
    have g1 : (i : Int) < s.size := by omega
    have g2 : (0 : Int) ≤ i := by omega
    rw [if_pos g1, if_pos g2, if_pos g1, if_pos g2, if_pos g1, w64 (x := (i : Int) + 1) (by omega) (by omega), show ((i : Int) + 1) = ((i + 1 : Nat) : Int) by omega, e, e2]
    by_cases h1 : bt s (i : Int) < 97
    · rw [if_pos h1]
      exact ⟨_, rfl, rfl, fun h => absurd h Bool.false_ne_true⟩
    · rw [if_neg h1]
      by_cases h2 : bt s (i : Int) > 122
      · rw [if_pos h2]
        exact ⟨_, rfl, rfl, fun h => absurd h Bool.false_ne_true⟩
      · rw [if_neg h2]
        exact ⟨b, rfl, rfl, hb⟩
theorem both_j1 (x a : Int) (t : Bool) (s : ByteArray) (c : List Int) (k : Nat) (hn : c.length ≤ 4611686018427387904) (hk : c.length + 2 < k) :
    ∃ b, spec_GoodPart.j1 k x t a s c = some b ∧ impl_GoodPart.j1 k x t a s c = some b ∧ (b = true → s.size ≤ 20 ∧ c.length ≤ 20) := by
  obtain ⟨k, rfl⟩ : ∃ m, k = m + 1 := ⟨k - 1, by omega⟩
  obtain ⟨b, e1, e2⟩ := both_rise c k hn (by omega)
  simp only [spec_GoodPart.j1, impl_GoodPart.j1]
  have no : ∃ b, (some false : Option Bool) = some b ∧ (some false : Option Bool) = some b ∧ (b = true → s.size ≤ 20 ∧ c.length ≤ 20) := ⟨_, rfl, rfl, fun h => absurd h Bool.false_ne_true⟩
  by_cases ht : t = true
  · rw [if_pos ht, if_pos ht]
    by_cases h1 : s.toList = ([] : List UInt8)
    · rw [if_pos h1, if_pos h1]
      have := noBytes h1
      by_cases h2 : (c.length : Int) ≤ 20
      · rw [if_pos h2, if_pos h2, e1, e2]
        exact ⟨b, rfl, rfl, fun _ => by omega⟩
      · rw [if_neg h2, if_neg h2]
        exact no
    · rw [if_neg h1, if_neg h1]
      exact no
  · rw [if_neg ht, if_neg ht]
    by_cases hx : x = 4
    · rw [if_pos hx, if_pos hx]
      by_cases h1 : s.toList = ([] : List UInt8)
      · rw [if_pos h1, if_pos h1]
        have := noBytes h1
        by_cases h2 : (c.length : Int) = 1
        · rw [if_pos h2, if_pos h2, if_pos (by omega), if_pos (by omega), spec_l1In_eq, impl_in_eq]
          exact ⟨_, rfl, rfl, fun _ => by omega⟩
        · rw [if_neg h2, if_neg h2]
          exact no
      · rw [if_neg h1, if_neg h1]
        exact no
    · rw [if_neg hx, if_neg hx]
      exact no
theorem both_part (a : Int) (s : ByteArray) (c : List Int) (k : Nat) (hs : s.size ≤ 4611686018427387904) (hn : c.length ≤ 4611686018427387904) (hk : s.size + c.length + 2 < k) :
    ∃ b, spec_GoodPart.f k a s c = some b ∧ impl_GoodPart.f k a s c = some b ∧ (b = true → s.size ≤ 20 ∧ c.length ≤ 20) := by
  unfold spec_GoodPart.f impl_GoodPart.f
  by_cases h1 : a = 1
  · rw [if_pos h1, if_pos h1]
    obtain ⟨b, e1, e2, hb⟩ := both_name_l a s c hs s.size k 0 (by omega) (by omega)
    exact ⟨b, e1, e2, fun h => by have := hb h; omega⟩
  · rw [if_neg h1, if_neg h1]
    by_cases h2 : a = 2
    · rw [if_pos h2, if_pos h2]
      exact both_j1 _ _ _ _ _ _ hn (by omega)
    · rw [if_neg h2, if_neg h2]
      exact both_j1 _ _ _ _ _ _ hn (by omega)

-- two
/-- Numbers as bytes, two each. -/
def two (l : List Int) : List Int := l.flatMap fun x => [x / 256 % 256, x % 256]
theorem two_len (l : List Int) : (two l).length = 2 * l.length := by
  unfold two
  induction l with
  | nil => rfl
  | cons a l ih => rw [List.flatMap_cons, List.length_append, ih]; simp; omega
theorem two_snoc (l : List Int) (x : Int) : two (l ++ [x]) = two l ++ [x / 256 % 256, x % 256] := by simp [two]

-- strsize
theorem strSize (l : List Int) : (strOfNums l).size = l.length := by
  simp [strOfNums, ByteArray.size]

-- puts(spec_l2Put)
theorem spec_l2Put_l (l : List Int) (hn : l.length ≤ 1000000) (d : Nat) : ∀ (k i : Nat), i + d = l.length → d < k →
    spec_l2Put.l0 k (two (l.take i)) l l.length i = some (strOfNums (two l)) := by
  induction d with
  | zero =>
    intro k i h hk
    obtain ⟨k, rfl⟩ : ∃ m, k = m + 1 := ⟨k - 1, by omega⟩
    simp only [spec_l2Put.l0]
    rw [if_neg (by omega), List.take_of_length_le (by omega)]
  | succ d ih =>
    intro k i h hk
    obtain ⟨k, rfl⟩ : ∃ m, k = m + 1 := ⟨k - 1, by omega⟩
    have h1 := ih k (i + 1) (by omega) (by omega)
    have ea : l.take (i + 1) = l.take i ++ [rd l i] := by
      unfold rd
      rw [Int.toNat_natCast, List.getD_eq_getElem?_getD, List.getElem?_eq_getElem (by omega)]
      exact List.take_succ_eq_append_getElem (by omega)
    have hl := two_len (l.take i)
    have hl2 : (l.take i).length ≤ l.length := by rw [List.length_take]; omega
    simp only [spec_l2Put.l0]
    rw [if_pos (by omega), if_pos (by omega), if_pos (by omega)]
    simp only [Option.bind_some, List.length_cons, List.length_nil]
    rw [if_pos (by omega), ← two_snoc, ← ea, w64 (by omega) (by omega), show ((i : Int) + 1) = ((i + 1 : Nat) : Int) by omega]
    exact h1
theorem spec_l2Put_eq (l : List Int) (k : Nat) (hn : l.length ≤ 1000000) (hk : l.length < k) : spec_l2Put.f k l = some (strOfNums (two l)) := by
  have h := spec_l2Put_l l hn l.length k 0 (by omega) hk
  unfold spec_l2Put.f
  simpa [two] using h

-- withs0
theorem bytes_str (l : List Int) (h : ∀ x ∈ l, 0 ≤ x ∧ x ≤ 255) : bytesOf (strOfNums l) = l := by
  unfold bytesOf
  rw [strOfNums_data, List.map_map]
  conv => rhs; rw [← List.map_id l]
  apply List.map_congr_left
  intro x hx
  have := h x hx
  simp [Function.comp]
  omega
theorem str_bytes (s : ByteArray) : strOfNums (bytesOf s) = s := by
  have h : (strOfNums (bytesOf s)).data.toList = s.data.toList := by
    rw [strOfNums_data]
    unfold bytesOf
    rw [List.map_map]
    conv => rhs; rw [← List.map_id s.data.toList]
    apply List.map_congr_left
    intro x _
    simp [Function.comp]
  obtain ⟨⟨a⟩⟩ := s
  exact congrArg (fun l : List UInt8 => (⟨⟨l⟩⟩ : ByteArray)) h
theorem bytes_in (s : ByteArray) : ∀ x ∈ bytesOf s, 0 ≤ x ∧ x ≤ 255 := by
  intro x hx
  unfold bytesOf at hx
  obtain ⟨b, _, rfl⟩ := List.mem_map.1 hx
  have := b.toNat_lt
  omega
theorem str_app (a b : List Int) : strOfNums a ++ strOfNums b = strOfNums (a ++ b) := by
  have h : (strOfNums a ++ strOfNums b).data.toList = (strOfNums (a ++ b)).data.toList := by
    rw [strOfNums_data, ByteArray.data_append, Array.toList_append, strOfNums_data, strOfNums_data, List.map_append]
  generalize strOfNums a ++ strOfNums b = x at h
  generalize strOfNums (a ++ b) = y at h
  obtain ⟨⟨x⟩⟩ := x
  obtain ⟨⟨y⟩⟩ := y
  exact congrArg (fun l : List UInt8 => (⟨⟨l⟩⟩ : ByteArray)) h
theorem str_cut (s : ByteArray) (i j : Nat) (hj : j ≤ s.size) : s.extract i j = strOfNums (((bytesOf s).take j).drop i) := by
  have h : (s.extract i j).data.toList = (strOfNums (((bytesOf s).take j).drop i)).data.toList := by
    rw [strOfNums_data, ByteArray.data_extract, Array.toList_extract]
    unfold bytesOf
    rw [List.map_drop, List.map_take, List.map_map]
    rw [show (fun n : Int => UInt8.ofNat n.toNat) ∘ (fun b : UInt8 => (b.toNat : Int)) = id by funext b; simp [Function.comp]]
    rw [List.map_id]
    simp [List.extract, List.drop_take]
  generalize s.extract i j = x at h
  generalize strOfNums (((bytesOf s).take j).drop i) = y at h
  obtain ⟨⟨x⟩⟩ := x
  obtain ⟨⟨y⟩⟩ := y
  exact congrArg (fun l : List UInt8 => (⟨⟨l⟩⟩ : ByteArray)) h

-- frameread
/-- Pairs of bytes, told as numbers and back. -/
theorem bt_nat (s : ByteArray) (i : Nat) (h : i < s.size) : bt s (i : Int) = (bytesOf s)[i]'(by rw [bytesOf_length]; exact h) := by
  unfold bt bytesOf
  simp [h]
  rfl
theorem two_tk (s : ByteArray) : ∀ (n i : Nat), i + 2 * n ≤ s.size → two (tk s i n) = ((bytesOf s).drop i).take (2 * n)
  | 0, i, _ => by simp [two, tk]
  | n + 1, i, h => by
    have ih := two_tk s n (i + 2) (by omega)
    have hb := bt_range s (i : Nat)
    have hc := bt_range s (i + 1 : Nat)
    have hl : (bytesOf s).length = s.size := bytesOf_length s
    have e : (bytesOf s).drop i = bt s (i : Nat) :: bt s (i + 1 : Nat) :: (bytesOf s).drop (i + 2) := by
      rw [List.drop_eq_getElem_cons (by omega), List.drop_eq_getElem_cons (i := i + 1) (by omega), bt_nat s i (by omega), bt_nat s (i + 1) (by omega)]
    rw [e, show 2 * (n + 1) = 2 * n + 1 + 1 by omega, List.take_succ_cons, List.take_succ_cons, ← ih]
    unfold two
    simp only [tk, List.flatMap_cons, List.cons_append, List.nil_append]
    rw [show (bt s (i : Nat) * 256 + bt s (i + 1 : Nat)) / 256 % 256 = bt s (i : Nat) by omega, show (bt s (i : Nat) * 256 + bt s (i + 1 : Nat)) % 256 = bt s (i + 1 : Nat) by omega]
theorem spec_take_any_l (s : ByteArray) (hs : s.size ≤ 300) (d : Nat) : ∀ (k n : Nat), 2 * n + 2 * d ≤ s.size → s.size ≤ 2 * n + 2 * d + 1 → d < k → spec_l2Take.l0 k s (tk s 0 n) (2 * n : Nat) = some (tk s 0 (s.size / 2)) := by
  induction d with
  | zero =>
    intro k n h h2 hk
    obtain ⟨k, rfl⟩ : ∃ m, k = m + 1 := ⟨k - 1, by omega⟩
    simp only [spec_l2Take.l0]
    rw [w64 (by omega) (by omega), if_neg (by omega)]
    obtain rfl : n = s.size / 2 := by omega
    rfl
  | succ d ih =>
    intro k n h h2 hk
    obtain ⟨k, rfl⟩ : ∃ m, k = m + 1 := ⟨k - 1, by omega⟩
    have h1 := ih k (n + 1) (by omega) (by omega) (by omega)
    have b0 := bt_range s (2 * n : Nat)
    have b1 := bt_range s (2 * n + 1 : Nat)
    simp only [spec_l2Take.l0]
    rw [w64 (x := ((2 * n : Nat) : Int) + 1) (by omega) (by omega), if_pos (by omega), if_pos (by omega), if_pos (by omega), if_pos (by omega), if_pos (by rw [tk_len]; omega)]
    rw [show ((2 * n : Nat) : Int) + 1 = ((2 * n + 1 : Nat) : Int) by omega, w64 (x := bt s (2 * n : Nat)) (by omega) (by omega), w64 (x := bt s (2 * n : Nat) * 256) (by omega) (by omega), w64 (x := bt s (2 * n + 1 : Nat)) (by omega) (by omega),
      w64 (x := bt s (2 * n : Nat) * 256 + bt s (2 * n + 1 : Nat)) (by omega) (by omega), w64 (by omega) (by omega)]
    have e := tk_snoc s n 0
    rw [Nat.zero_add] at e
    rw [← e, show ((2 * n : Nat) : Int) + 2 = ((2 * (n + 1) : Nat) : Int) by omega]
    exact h1
theorem spec_take_any (s : ByteArray) (hs : s.size ≤ 300) (k : Nat) (hk : s.size < k) : spec_l2Take.f k s = some (tk s 0 (s.size / 2)) := by
  have h := spec_take_any_l s hs (s.size / 2) k 0 (by omega) (by omega) (by omega)
  unfold spec_l2Take.f
  simpa [tk] using h
/-- The first part of a text: its kind, its length. -/
def skipR (s : ByteArray) : Int × Int × ByteArray × Bool :=
  if (2 ≤ s.size ∧ s.size ≤ 200) ∧ bt s 1 ≤ (s.size : Int) - 2 then (bt s 0, bt s 1, s.extract 2 (2 + bt s 1).toNat, true) else (0, 0, ⟨#[]⟩, false)
theorem spec_skip (s : ByteArray) (hs : s.size ≤ 200) : spec_SkipPart.f s = some (skipR s) := by
  have b0 := bt_range s 0
  have b1 := bt_range s 1
  unfold spec_SkipPart.f spec_l1In.f skipR
  rw [w64 (x := bt s 0) (by omega) (by omega), w64 (x := bt s 1) (by omega) (by omega), w64 (x := (s.size : Int) - 2) (by omega) (by omega), w64 (x := 2 + bt s 1) (by omega) (by omega)]
  by_cases h1 : (2 : Int) ≤ s.size
  · rw [if_pos (show (s.size : Int) ≥ 2 from h1), decide_eq_true (show (s.size : Int) ≤ 200 by omega)]
    simp only [Option.bind_some, if_true]
    rw [if_pos (show (1 : Int) < s.size by omega)]
    by_cases h3 : (s.size : Int) - 2 < bt s 1
    · rw [if_pos (show bt s 1 > (s.size : Int) - 2 from h3), if_neg (by omega)]
    · rw [if_neg (show ¬ bt s 1 > (s.size : Int) - 2 from h3), if_pos (show (0 : Int) < s.size by omega), if_pos (show (2 : Int) ≤ 2 + bt s 1 by omega), if_pos (show 2 + bt s 1 ≤ (s.size : Int) by omega), if_pos (by omega)]
  · rw [if_neg (show ¬ (s.size : Int) ≥ 2 from h1), if_neg (show ¬ ((2 ≤ s.size ∧ s.size ≤ 200) ∧ bt s 1 ≤ (s.size : Int) - 2) from fun e => h1 (by omega))]
    simp
theorem impl_skip (s : ByteArray) (hs : s.size ≤ 200) : impl_SkipPart.f s = some (skipR s) := by
  have b0 := bt_range s 0
  have b1 := bt_range s 1
  unfold impl_SkipPart.f skipR
  rw [w64 (x := bt s 0) (by omega) (by omega), w64 (x := bt s 1) (by omega) (by omega), w64 (x := (s.size : Int) - 2) (by omega) (by omega), w64 (x := 2 + bt s 1) (by omega) (by omega)]
  rw [if_neg (show ¬ (s.size : Int) > 200 by omega)]
  by_cases h1 : (2 : Int) ≤ s.size
  · rw [if_neg (show ¬ (s.size : Int) < 2 by omega), if_pos (show (1 : Int) < s.size by omega)]
    by_cases h3 : (s.size : Int) - 2 < bt s 1
    · rw [if_pos h3, if_neg (by omega)]
    · rw [if_neg h3, if_pos (show (0 : Int) < s.size by omega), if_pos (show (2 : Int) ≤ 2 + bt s 1 by omega), if_pos (show 2 + bt s 1 ≤ (s.size : Int) by omega), if_pos (by omega)]
  · rw [if_pos (show (s.size : Int) < 2 by omega), if_neg (by omega)]
theorem size_zero {s : ByteArray} (h : s.size = 0) : s = ⟨#[]⟩ := by
  obtain ⟨⟨a⟩⟩ := s
  cases a with
  | nil => rfl
  | cons x a => simp [ByteArray.size] at h
theorem list_size (a : ByteArray) : a.toList.length = a.size := by
  rw [ByteArray.toList_eq]
  exact Array.length_toList
theorem toList_ne {a b : ByteArray} (h : a.size ≠ b.size) : (a.toList != b.toList) = true := by
  rw [bne_iff_ne]
  intro e
  apply h
  have h2 := congrArg List.length e
  rwa [list_size, list_size] at h2
/-- What is read of a part: whether it is good, and its fields. -/
theorem both_of (a : Int) (t : ByteArray) (k : Nat) (ha : 0 ≤ a ∧ a ≤ 255) (ht : t.size ≤ 255) (hk : 600 < k) :
    ∃ (b : Bool) (p0 : Int) (p1 : ByteArray) (p2 : List Int), (b = true → p1.size ≤ 20 ∧ p2.length ≤ 20) ∧ (b = true → impl_partOf.f k a t = some (p0, p1, p2, true)) ∧ (b = false → ∃ q0 q1 q2, impl_partOf.f k a t = some (q0, q1, q2, false)) ∧
      spec_l2Part.f k a t = some (p0, p1, p2) ∧ ∃ g, spec_GoodPart.f k p0 p1 p2 = some g ∧ (g = false → b = false) ∧
        (g = true → ∃ z, spec_l2Text.f k p0 p1 p2 = some z ∧ (strOfNums ([a % 256, (t.size : Int) % 256] : List Int)).size + t.size ≤ 9223372036854775807 ∧ (z.toList != ((strOfNums ([a % 256, (t.size : Int) % 256] : List Int)) ++ t).toList) = !b) := by
  have hz2 : (strOfNums ([a % 256, (t.size : Int) % 256] : List Int)).size = 2 := by rw [strSize]; rfl
  by_cases h1 : a = 1
  · obtain ⟨b, e1, e2, hb⟩ := both_part a t [] k (by omega) (by simp) (by simp only [List.length_nil]; omega)
    refine ⟨b, a, t, [], fun h => hb h, fun h => ?_, fun h => ?_, ?_, b, e1, id, fun h => ?_⟩
    · unfold impl_partOf.f
      rw [if_pos h1, e2, h]
      rfl
    · refine ⟨a, t, [], ?_⟩
      unfold impl_partOf.f
      rw [if_pos h1, e2, h]
      rfl
    · unfold spec_l2Part.f
      rw [if_pos h1]
    · unfold spec_l2Text.f
      rw [spec_l2Put_eq [] k (by simp) (by simp only [List.length_nil]; omega)]
      simp only [Option.bind_some]
      have ez : t ++ strOfNums (two []) = t := by
        rw [show strOfNums (two []) = (⟨#[]⟩ : ByteArray) from rfl]
        exact ByteArray.append_empty
      have es : (strOfNums (two [])).size = 0 := by rw [strSize]; rfl
      rw [if_pos (by omega), ez, if_pos (by omega)]
      exact ⟨_, rfl, by omega, by rw [h]; simp⟩
  · have esz : (⟨#[]⟩ : ByteArray).size = 0 := rfl
    obtain ⟨g, e1, e2, hg⟩ := both_part a ⟨#[]⟩ (tk t 0 (t.size / 2)) k (by rw [esz]; omega) (by rw [tk_len]; omega) (by rw [tk_len, esz]; omega)
    have e4 : spec_l2Part.f k a t = some (a, ⟨#[]⟩, tk t 0 (t.size / 2)) := by
      unfold spec_l2Part.f
      rw [if_neg h1, spec_take_any t (by omega) k (by omega)]
      rfl
    have e5 := impl_TakeNums_f t k (by omega)
    have hput := spec_l2Put_eq (tk t 0 (t.size / 2)) k (by rw [tk_len]; omega) (by rw [tk_len]; omega)
    have hps : (strOfNums (two (tk t 0 (t.size / 2)))).size = 2 * (t.size / 2) := by rw [strSize, two_len, tk_len]
    by_cases hev : t.size % 2 = 0
    · by_cases h40 : t.size ≤ 40
      · rw [if_pos ⟨h40, hev⟩] at e5
        refine ⟨g, a, ⟨#[]⟩, tk t 0 (t.size / 2), fun h => hg h, fun h => ?_, fun h => ?_, e4, g, e1, id, fun h => ?_⟩
        · unfold impl_partOf.f
          rw [if_neg h1, e5]
          simp only [Option.bind_some, if_true]
          rw [e2, h]
          rfl
        · refine ⟨a, ⟨#[]⟩, tk t 0 (t.size / 2), ?_⟩
          unfold impl_partOf.f
          rw [if_neg h1, e5]
          simp only [Option.bind_some, if_true]
          rw [e2, h]
          rfl
        · unfold spec_l2Text.f
          rw [hput]
          simp only [Option.bind_some]
          have em : two (tk t 0 (t.size / 2)) = bytesOf t := by
            rw [two_tk t _ 0 (by omega), List.drop_zero, List.take_of_length_le (by rw [bytesOf_length]; omega)]
          have ez : (⟨#[]⟩ : ByteArray) ++ strOfNums (two (tk t 0 (t.size / 2))) = t := by
            rw [em, str_bytes]
            exact ByteArray.empty_append
          rw [if_pos (by rw [esz, hps]; omega), ez, if_pos (by omega)]
          exact ⟨_, rfl, by omega, by rw [h]; simp⟩
      · have hgf : g = false := by
          cases hgg : g with
          | false => rfl
          | true => have := (hg hgg).2; rw [tk_len] at this; omega
        rw [if_neg (fun e => h40 e.1)] at e5
        refine ⟨false, a, ⟨#[]⟩, tk t 0 (t.size / 2), fun h => by simp at h, fun h => by simp at h, fun _ => ⟨a, ⟨#[]⟩, [], ?_⟩, e4, g, e1, fun _ => rfl, fun h => by rw [hgf] at h; simp at h⟩
        unfold impl_partOf.f
        rw [if_neg h1, e5]
        simp
    · rw [if_neg (fun e => hev e.2)] at e5
      refine ⟨false, a, ⟨#[]⟩, tk t 0 (t.size / 2), fun h => by simp at h, fun h => by simp at h, fun _ => ⟨a, ⟨#[]⟩, [], ?_⟩, e4, g, e1, fun _ => rfl, fun h => ?_⟩
      · unfold impl_partOf.f
        rw [if_neg h1, e5]
        simp
      · unfold spec_l2Text.f
        rw [hput]
        simp only [Option.bind_some]
        have hes : ((⟨#[]⟩ : ByteArray) ++ strOfNums (two (tk t 0 (t.size / 2)))).size = 2 * (t.size / 2) := by rw [ByteArray.size_append, hps, esz]; omega
        generalize (⟨#[]⟩ : ByteArray) ++ strOfNums (two (tk t 0 (t.size / 2))) = y at hes
        have hy2 : (strOfNums ([a % 256, (y.size : Int) % 256] : List Int)).size = 2 := by rw [strSize]; rfl
        rw [if_pos (by rw [hps, esz]; omega), if_pos (by omega)]
        exact ⟨_, rfl, by omega, toList_ne (by rw [ByteArray.size_append, ByteArray.size_append]; omega)⟩

-- helps
theorem set_take {α : Type} (m L : List α) (i : Nat) (hi : i < L.length) (hm : m.length = L.length) (ht : m.take i = L.take i) (v : α) (hv : L[i]? = some v) : (m.set i v).take (i + 1) = L.take (i + 1) := by
  rw [List.take_set, List.take_succ_eq_append_getElem (by omega), List.take_succ_eq_append_getElem hi, ht, List.set_append_right _ _ (by rw [List.length_take]; omega)]
  rw [List.length_take, show i - min i L.length = 0 by omega]
  rw [List.getElem?_eq_getElem hi] at hv
  rw [Option.some.inj hv]
  rfl
/-- From some number of rounds on: one number for a pair. -/
theorem ev_at {α : Type} {g : Nat → Option α} {r : α} (h : Ev g r) : ∃ K, ∀ k, K ≤ k → g k = some r := h
theorem ev_some {α : Type} {g : Nat → Option α} {r : α} (h : ∀ k, g k = some r) : Ev g r := ⟨0, fun k _ => h k⟩
theorem ev_ge {α : Type} {g : Nat → Option α} {r : α} (K : Nat) (h : ∀ k, K ≤ k → g k = some r) : Ev g r := ⟨K, h⟩

-- upfrom
/-- n, n + 1, .., in so many places. -/
def upFrom (m : Int) (n : Nat) : List Int := (List.range n).map fun i : Nat => m + i
theorem upFrom_len (m : Int) (n : Nat) : (upFrom m n).length = n := by simp [upFrom]
theorem rd_nat (l : List Int) (i : Nat) : rd l i = l.getD i 0 := by simp [rd]
theorem rd_upFrom (m : Int) (n i : Nat) (h : i < n) : rd (upFrom m n) i = m + i := by
  simp [rd, upFrom, h]

-- eqi
theorem eqI_l (a b : List Int) (hl : a.length = b.length) (hn : a.length ≤ 4611686018427387904) (d : Nat) : ∀ (k i : Nat), i + d = a.length → d < k →
    laws_eqIntS.l0 k a b i = some (decide (a.drop i = b.drop i)) := by
  induction d with
  | zero =>
    intro k i h hk
    obtain ⟨k, rfl⟩ : ∃ m, k = m + 1 := ⟨k - 1, by omega⟩
    simp only [laws_eqIntS.l0]
    rw [if_neg (by omega), List.drop_of_length_le (by omega), List.drop_of_length_le (by omega)]
    simp
  | succ d ih =>
    intro k i h hk
    obtain ⟨k, rfl⟩ : ∃ m, k = m + 1 := ⟨k - 1, by omega⟩
    have h1 := ih k (i + 1) (by omega) (by omega)
    simp only [laws_eqIntS.l0]
    rw [if_pos (by omega), if_pos (by omega), if_pos (by omega), rd_nat, rd_nat, w64 (by omega) (by omega)]
    have ea : a.drop i = a.getD i 0 :: a.drop (i + 1) := by
      rw [List.getD_eq_getElem?_getD, List.getElem?_eq_getElem (by omega)]
      exact List.drop_eq_getElem_cons (by omega)
    have eb : b.drop i = b.getD i 0 :: b.drop (i + 1) := by
      rw [List.getD_eq_getElem?_getD, List.getElem?_eq_getElem (by omega)]
      exact List.drop_eq_getElem_cons (by omega)
    by_cases e : a.getD i 0 = b.getD i 0
    · rw [if_pos e]
      rw [show ((i : Int) + 1) = ((i + 1 : Nat) : Int) by omega, h1, ea, eb, e]
      simp
    · rw [if_neg e, ea, eb, decide_eq_false (fun h => e (List.cons.inj h).1)]
theorem eqI (a b : List Int) (k : Nat) (hn : a.length ≤ 4611686018427387904) (hk : a.length < k) : laws_eqIntS.f k a b = some (decide (a = b)) := by
  unfold laws_eqIntS.f
  by_cases hl : a.length = b.length
  · rw [if_pos (by omega)]
    simpa using eqI_l a b hl hn a.length k 0 (by omega) hk
  · rw [if_neg (by omega)]
    have : a ≠ b := fun e => hl (by rw [e])
    simp [this]

-- eqpart
theorem eqPart_refl (a : Int) (s : ByteArray) (c : List Int) (k : Nat) (hn : c.length ≤ 4611686018427387904) (hk : c.length < k) : laws_eqPart.f k a s c a s c = some true := by
  unfold laws_eqPart.f
  rw [if_pos rfl, if_pos rfl, eqI _ _ _ hn hk]
  simp

-- rdt(38)
theorem rd_T38_at (l : List S38) (i : Nat) (h : i < l.length) : rd_T38 l i = l[i] := by
  simp [rd_T38, List.getD_eq_getElem?_getD, List.getElem?_eq_getElem h]

-- eqparts
theorem eqParts_l (l : List S38) (B : Nat) (hn : l.length ≤ 4611686018427387904) (hB : B ≤ 4611686018427387904) (hb : ∀ x ∈ l, x.f2.length ≤ B) (d : Nat) : ∀ (k i : Nat), i + d = l.length → d + B + 1 < k → laws_eqPartS.l0 k l l i = some true := by
  induction d with
  | zero =>
    intro k i h hk
    obtain ⟨k, rfl⟩ : ∃ m, k = m + 1 := ⟨k - 1, by omega⟩
    simp only [laws_eqPartS.l0]
    rw [if_neg (by omega)]
  | succ d ih =>
    intro k i h hk
    obtain ⟨k, rfl⟩ : ∃ m, k = m + 1 := ⟨k - 1, by omega⟩
    have h1 := ih k (i + 1) (by omega) (by omega)
    have hx := hb (l[i]'(by omega)) (List.getElem_mem (by omega))
    simp only [laws_eqPartS.l0]
    rw [if_pos (by omega), if_pos (by omega), if_pos (by omega), rd_T38_at l i (by omega), eqPart_refl _ _ _ _ (by omega) (by omega), w64 (by omega) (by omega), show ((i : Int) + 1) = ((i + 1 : Nat) : Int) by omega, h1]
    simp
theorem eqParts_refl (l : List S38) (B k : Nat) (hn : l.length ≤ 4611686018427387904) (hB : B ≤ 4611686018427387904) (hb : ∀ x ∈ l, x.f2.length ≤ B) (hk : l.length + B + 1 < k) : laws_eqPartS.f k l l = some true := by
  unfold laws_eqPartS.f
  rw [if_pos rfl]
  exact eqParts_l l B hn hB hb l.length k 0 (by omega) hk

-- marki
theorem markI_l (m : Int) (hm : 0 ≤ m ∧ m ≤ 4611686018427387904) (d : Nat) : ∀ (k i : Nat) (l : List Int), i + d = l.length → l.length ≤ 2305843009213693952 → d < k → l.take i = upFrom m i →
    laws_markIntS.l0 k l (m + i) i = some (m + l.length, upFrom m l.length) := by
  induction d with
  | zero =>
    intro k i l h hn hk ht
    obtain ⟨k, rfl⟩ : ∃ m, k = m + 1 := ⟨k - 1, by omega⟩
    simp only [laws_markIntS.l0]
    rw [if_neg (by omega)]
    obtain rfl : i = l.length := by omega
    rw [List.take_length] at ht
    rw [← ht]
  | succ d ih =>
    intro k i l h hn hk ht
    obtain ⟨k, rfl⟩ : ∃ m, k = m + 1 := ⟨k - 1, by omega⟩
    simp only [laws_markIntS.l0]
    rw [if_pos (by omega), if_pos (by omega), w64 (x := m + i + 1) (by omega) (by omega), w64 (x := (i : Int) + 1) (by omega) (by omega)]
    have h1 := ih k (i + 1) (l.set (i : Int).toNat (m + i)) (by rw [List.length_set]; omega) (by rw [List.length_set]; omega) (by omega) ?_
    · rw [List.length_set] at h1
      rw [show m + (i : Int) + 1 = m + ((i + 1 : Nat) : Int) by omega, show (i : Int) + 1 = ((i + 1 : Nat) : Int) by omega]
      exact h1
    · rw [Int.toNat_natCast, List.take_set]
      rw [show List.take (i + 1) l = List.take i l ++ [l.getD i 0] by
        rw [List.take_succ_eq_append_getElem (by omega), List.getD_eq_getElem?_getD, List.getElem?_eq_getElem (by omega)]; rfl]
      rw [ht, List.set_append_right _ _ (by rw [upFrom_len]; omega), upFrom_len]
      simp [upFrom, List.range_succ]
theorem markI (l : List Int) (m : Int) (k : Nat) (hm : 0 ≤ m ∧ m ≤ 4611686018427387904) (hn : l.length ≤ 2305843009213693952) (hk : l.length < k) :
    laws_markIntS.f k l m = some (m + l.length, upFrom m l.length) := by
  have h := markI_l m hm l.length k 0 l (by omega) hn hk (by simp [upFrom])
  unfold laws_markIntS.f
  simpa using h
theorem heldI_l (m : Int) (hm : 0 ≤ m ∧ m ≤ 4611686018427387904) (n : Nat) (hn : n ≤ 2305843009213693952) (d : Nat) : ∀ (k i : Nat), i + d = n → d < k →
    laws_heldIntS.l0 k (upFrom m n) (m + i) i = some (m + n) := by
  induction d with
  | zero =>
    intro k i h hk
    obtain ⟨k, rfl⟩ : ∃ m, k = m + 1 := ⟨k - 1, by omega⟩
    simp only [laws_heldIntS.l0]
    rw [if_neg (by rw [upFrom_len]; omega)]
    obtain rfl : i = n := by omega
    rfl
  | succ d ih =>
    intro k i h hk
    obtain ⟨k, rfl⟩ : ∃ m, k = m + 1 := ⟨k - 1, by omega⟩
    have h1 := ih k (i + 1) (by omega) (by omega)
    simp only [laws_heldIntS.l0]
    rw [if_pos (by rw [upFrom_len]; omega), if_pos (by omega), rd_upFrom m n i (by omega), if_pos rfl, w64 (x := m + i + 1) (by omega) (by omega), w64 (x := (i : Int) + 1) (by omega) (by omega)]
    rw [show m + (i : Int) + 1 = m + ((i + 1 : Nat) : Int) by omega, show (i : Int) + 1 = ((i + 1 : Nat) : Int) by omega]
    exact h1
theorem heldI (m : Int) (n k : Nat) (hm : 0 ≤ m ∧ m ≤ 4611686018427387904) (hn : n ≤ 2305843009213693952) (hk : n < k) : laws_heldIntS.f k (upFrom m n) m = some (m + n) := by
  have h := heldI_l m hm n hn n k 0 (by omega) hk
  unfold laws_heldIntS.f
  simpa using h

-- partmarks
theorem mt_l (d : Nat) : ∀ (n : Int) (s : ByteArray), 0 ≤ n → n ≤ 9223372036854775807 → n < ((10 ^ d : Nat) : Int) → s.size + d ≤ 1000 → ∃ t, ∀ k, d < k → laws_markText.l0 k n s = some t := by
  induction d with
  | zero =>
    intro n s h0 hn h1 hs
    have e : n = 0 := by simp at h1; omega
    subst e
    refine ⟨(⟨#[109]⟩ : ByteArray) ++ s, fun k hk => ?_⟩
    obtain ⟨k, rfl⟩ : ∃ m, k = m + 1 := ⟨k - 1, by omega⟩
    simp only [laws_markText.l0]
    rw [if_neg (by omega), if_pos (by omega)]
  | succ d ih =>
    intro n s h0 hn h1 hs
    by_cases hp : n > 0
    · have hz : (strOfNums [(wrap64 (48 + (Int.tmod n 10))) % 256]).size = 1 := by rw [strSize]; rfl
      have hq : n / 10 < ((10 ^ d : Nat) : Int) := by
        rw [Nat.pow_succ] at h1
        omega
      obtain ⟨t, ht⟩ := ih (n / 10) (strOfNums [(wrap64 (48 + (Int.tmod n 10))) % 256] ++ s) (by omega) (by omega) hq (by rw [ByteArray.size_append, hz]; omega)
      refine ⟨t, fun k hk => ?_⟩
      obtain ⟨k, rfl⟩ : ∃ m, k = m + 1 := ⟨k - 1, by omega⟩
      simp only [laws_markText.l0]
      rw [if_pos hp]
      simp only [Option.bind_some]
      rw [if_pos (by omega), Int.tdiv_eq_ediv_of_nonneg h0, w64 (x := n / 10) (by omega) (by omega)]
      exact ht k (by omega)
    · have e : n = 0 := by omega
      subst e
      refine ⟨(⟨#[109]⟩ : ByteArray) ++ s, fun k hk => ?_⟩
      obtain ⟨k, rfl⟩ : ∃ m, k = m + 1 := ⟨k - 1, by omega⟩
      simp only [laws_markText.l0]
      rw [if_neg (by omega), if_pos (by omega)]
def mt (n : Int) : ByteArray := (laws_markText.f 100 n).getD ⟨#[]⟩
theorem mt_eq (n : Int) (h0 : 0 < n) (h1 : n ≤ 100000000000000) (k : Nat) (hk : 20 < k) : laws_markText.f k n = some (mt n) := by
  obtain ⟨t, ht⟩ := mt_l 15 n ⟨#[]⟩ (by omega) (by omega) (by rw [show ((10 ^ 15 : Nat) : Int) = 1000000000000000 by decide]; omega) (by decide)
  have h : ∀ k, 20 < k → laws_markText.f k n = some t := by
    intro k hk
    unfold laws_markText.f
    rw [if_neg (by omega)]
    exact ht k (by omega)
  unfold mt
  rw [h k hk, h 100 (by omega)]
  rfl
def szP : List S38 → Nat
  | [] => 0
  | x :: l => 2 + x.f2.length + szP l
def mkP (m : Int) : List S38 → List S38
  | [] => []
  | x :: l => ⟨m, mt (m + 1), upFrom (m + 2) x.f2.length⟩ :: mkP (m + 2 + (x.f2.length : Int)) l
theorem mkP_len : ∀ (l : List S38) (m : Int), (mkP m l).length = l.length
  | [], _ => rfl
  | x :: l, m => by simp [mkP, mkP_len l]
theorem szP_bd (B : Nat) : ∀ (l : List S38), (∀ x ∈ l, x.f2.length ≤ B) → szP l ≤ l.length * (2 + B)
  | [], _ => Nat.zero_le _
  | x :: l, h => by
    have h1 := szP_bd B l (fun y hy => h y (List.mem_cons_of_mem _ hy))
    have h2 := h x List.mem_cons_self
    simp only [szP, List.length_cons, Nat.add_mul, Nat.one_mul]
    omega
theorem rd38_mid (a : List S38) (x : S38) (b : List S38) : rd_T38 (a ++ x :: b) (a.length : Int) = x := by
  rw [rd_T38_at _ _ (by simp)]
  simp
theorem set38_mid (a : List S38) (x y : S38) (b : List S38) : (a ++ x :: b).set ((a.length : Int)).toNat y = (a ++ [y]) ++ b := by
  rw [Int.toNat_natCast, List.set_append_right _ _ (Nat.le_refl _), Nat.sub_self]
  simp
theorem markP_l (B : Nat) (hB : B ≤ 10000000) : ∀ (l a : List S38) (m : Int) (k : Nat), (∀ x ∈ l, x.f2.length ≤ B) → 0 ≤ m → m + szP l ≤ 50000000000000 → a.length + l.length ≤ 10000000 → l.length + B + 50 < k → laws_markPartS.l0 k (a ++ l) m a.length = some (m + szP l, a ++ mkP m l)
  | [], a, m, k, _, _, _, _, hk => by
    obtain ⟨k, rfl⟩ : ∃ m, k = m + 1 := ⟨k - 1, by omega⟩
    simp only [laws_markPartS.l0, List.append_nil]
    rw [if_neg (by omega)]
    simp [mkP, szP]
  | x :: l, a, m, k, hb, h0, hs, hl, hk => by
    obtain ⟨k, rfl⟩ : ∃ m, k = m + 1 := ⟨k - 1, by omega⟩
    have hx := hb x List.mem_cons_self
    simp only [szP] at hs
    rw [List.length_cons] at hl hk
    simp only [laws_markPartS.l0]
    rw [if_pos (by rw [List.length_append, List.length_cons]; omega), if_pos (by omega), rd38_mid, w64 (x := m + 1) (by omega) (by omega), w64 (x := m + 1 + 1) (by omega) (by omega), show m + 1 + 1 = m + 2 by omega, mt_eq (m + 1) (by omega) (by omega) k (by omega)]
    simp only [Option.bind_some]
    rw [markI x.f2 (m + 2) k (by omega) (by omega) (by omega)]
    simp only [Option.bind_some]
    rw [set38_mid, w64 (x := (a.length : Int) + 1) (by omega) (by omega)]
    have h := markP_l B hB l (a ++ [⟨m, mt (m + 1), upFrom (m + 2) x.f2.length⟩]) (m + 2 + (x.f2.length : Int)) k (fun y hy => hb y (List.mem_cons_of_mem _ hy)) (by omega) (by omega) (by rw [List.length_append, List.length_singleton]; omega) (by omega)
    rw [List.length_append, List.length_singleton] at h
    rw [show (a.length : Int) + 1 = ((a.length + 1 : Nat) : Int) by omega, h]
    simp only [mkP, szP, List.append_assoc, List.singleton_append]
    congr 2
    omega
theorem markP (B : Nat) (hB : B ≤ 10000000) (l : List S38) (m : Int) (k : Nat) (hb : ∀ x ∈ l, x.f2.length ≤ B) (h0 : 0 ≤ m) (hs : m + szP l ≤ 50000000000000) (hl : l.length ≤ 10000000) (hk : l.length + B + 50 < k) : laws_markPartS.f k l m = some (m + szP l, mkP m l) := by
  have h := markP_l B hB l [] m k hb h0 hs (by simpa using hl) hk
  unfold laws_markPartS.f
  simpa using h
theorem heldP_l (B : Nat) (hB : B ≤ 10000000) : ∀ (l a : List S38) (m : Int) (k : Nat), (∀ x ∈ l, x.f2.length ≤ B) → 0 ≤ m → m + szP l ≤ 50000000000000 → a.length + l.length ≤ 10000000 → l.length + B + 50 < k → laws_heldPartS.l0 k (a ++ mkP m l) m a.length = some (m + szP l)
  | [], a, m, k, _, _, _, _, hk => by
    obtain ⟨k, rfl⟩ : ∃ m, k = m + 1 := ⟨k - 1, by omega⟩
    simp only [laws_heldPartS.l0, mkP, List.append_nil]
    rw [if_neg (by omega)]
    simp [szP]
  | x :: l, a, m, k, hb, h0, hs, hl, hk => by
    obtain ⟨k, rfl⟩ : ∃ m, k = m + 1 := ⟨k - 1, by omega⟩
    have hx := hb x List.mem_cons_self
    simp only [szP] at hs
    rw [List.length_cons] at hl hk
    rw [show mkP m (x :: l) = ⟨m, mt (m + 1), upFrom (m + 2) x.f2.length⟩ :: mkP (m + 2 + (x.f2.length : Int)) l from rfl]
    simp only [laws_heldPartS.l0]
    rw [if_pos (by rw [List.length_append, List.length_cons]; omega), if_pos (by omega), rd38_mid, w64 (x := m + 1) (by omega) (by omega), w64 (x := m + 1 + 1) (by omega) (by omega), show m + 1 + 1 = m + 2 by omega, if_pos rfl, mt_eq (m + 1) (by omega) (by omega) k (by omega)]
    simp only [Option.bind_some]
    rw [if_pos trivial, heldI (m + 2) _ k (by omega) (by omega) (by omega)]
    simp only [Option.bind_some]
    rw [if_neg (by omega), w64 (x := (a.length : Int) + 1) (by omega) (by omega)]
    have h := heldP_l B hB l (a ++ [⟨m, mt (m + 1), upFrom (m + 2) x.f2.length⟩]) (m + 2 + (x.f2.length : Int)) k (fun y hy => hb y (List.mem_cons_of_mem _ hy)) (by omega) (by omega) (by rw [List.length_append, List.length_singleton]; omega) (by omega)
    rw [List.length_append, List.length_singleton, List.append_assoc, List.singleton_append] at h
    rw [show (a.length : Int) + 1 = ((a.length + 1 : Nat) : Int) by omega, h]
    simp only [szP]
    congr 1
    omega
theorem heldP (B : Nat) (hB : B ≤ 10000000) (l : List S38) (m : Int) (k : Nat) (hb : ∀ x ∈ l, x.f2.length ≤ B) (h0 : 0 ≤ m) (hs : m + szP l ≤ 50000000000000) (hl : l.length ≤ 10000000) (hk : l.length + B + 50 < k) : laws_heldPartS.f k (mkP m l) m = some (m + szP l) := by
  have h := heldP_l B hB l [] m k hb h0 hs (by simpa using hl) hk
  unfold laws_heldPartS.f
  simpa using h

theorem emptyList : (⟨#[]⟩ : ByteArray).toList = ([] : List UInt8) := by
  rw [ByteArray.toList_eq]
theorem skipR_bd (s : ByteArray) (hs : s.size ≤ 200) (h : (skipR s).2.2.2 = true) : (0 ≤ (skipR s).1 ∧ (skipR s).1 ≤ 255) ∧ (0 ≤ (skipR s).2.1 ∧ (skipR s).2.1 + 2 ≤ s.size) ∧ (((skipR s).2.2.1.size : Nat) : Int) = (skipR s).2.1 := by
  have b0 := bt_range s 0
  have b1 := bt_range s 1
  unfold skipR at h ⊢
  by_cases c : (2 ≤ s.size ∧ s.size ≤ 200) ∧ bt s 1 ≤ (s.size : Int) - 2
  · rw [if_pos c]
    refine ⟨b0, ⟨b1.1, by simp only; omega⟩, ?_⟩
    simp only [ByteArray.size_extract]
    omega
  · rw [if_neg c] at h
    simp at h
theorem ext_ext (s : ByteArray) (i n : Nat) (h : i + n ≤ s.size) : (s.extract i s.size).extract n (s.extract i s.size).size = s.extract (i + n) s.size := by
  rw [ByteArray.extract_extract, ByteArray.size_extract]
  congr 1
  omega
theorem in14 (p0 : Int) : spec_l1In.f p0 1 4 = some (decide (1 ≤ p0 ∧ p0 ≤ 4)) := by
  unfold spec_l1In.f
  by_cases h1 : p0 ≥ 1
  · rw [if_pos h1]
    simp [show 1 ≤ p0 from h1]
  · rw [if_neg h1]
    simp [show ¬ 1 ≤ p0 from h1]
theorem in14' (p0 : Int) : impl_in.f p0 1 4 = some (decide (1 ≤ p0 ∧ p0 ≤ 4)) := in14 p0
theorem w_two (n i z : Nat) (h : i + (2 + n) ≤ z) (hz : z ≤ 200) : wrap64 (2 + (n : Int)) = 2 + (n : Int) ∧ wrap64 ((i : Int) + (2 + (n : Int))) = ((i + (2 + n) : Nat) : Int) := by
  constructor
  · exact w64 (by omega) (by omega)
  · rw [w64 (by omega) (by omega)]
    omega
set_option maxHeartbeats 1000000 in
/-- Both read the same from a place on. -/
theorem both_read (s : ByteArray) (hs : s.size ≤ 200) (d : Nat) : ∀ (i : Nat) (out : List S38) (left : Int) (k : Nat), i ≤ s.size → s.size - i ≤ d → out.length ≤ 10 → (∀ x ∈ out, x.f2.length ≤ 20) → 0 ≤ left → left + d ≤ 1000 → d + d + 700 < k →
    ∃ r : List S38 × Int × Int × Bool, spec_ReadFrame.l0 k s out left i = some r ∧ impl_ReadFrame.l0 k (s.extract i s.size) out left = some r ∧ r.1.length ≤ 10 ∧ ∀ x ∈ r.1, x.f2.length ≤ 20 := by
  induction d with
  | zero =>
    intro i out left k hi hd ho hx h0 hl hk
    obtain ⟨k, rfl⟩ : ∃ m, k = m + 1 := ⟨k - 1, by omega⟩
    have e : s.extract i s.size = ⟨#[]⟩ := size_zero (by rw [ByteArray.size_extract]; omega)
    simp only [spec_ReadFrame.l0, impl_ReadFrame.l0]
    rw [if_neg (by omega), e, if_pos emptyList]
    exact ⟨_, rfl, rfl, ho, hx⟩
  | succ d ih =>
    intro i out left k hi hd ho hx h0 hl hk
    obtain ⟨k, rfl⟩ : ∃ m, k = m + 2 := ⟨k - 2, by omega⟩
    by_cases hlt : i < s.size
    · have hes : (s.extract i s.size).size = s.size - i := by rw [ByteArray.size_extract]; omega
      have hne : ¬ (s.extract i s.size).toList = ([] : List UInt8) := by
        intro e
        have := noBytes e
        omega
      rw [spec_ReadFrame.l0, impl_ReadFrame.l0, if_pos (by omega), if_pos (by omega), if_pos (by omega), if_neg hne, Int.toNat_natCast, spec_skip _ (by omega), impl_skip _ (by omega)]
      have hsk := skipR_bd (s.extract i s.size) (by omega)
      have hee := ext_ext s i
      generalize s.extract i s.size = u at hes hne hsk hee ⊢
      generalize skipR u = p at hsk ⊢
      obtain ⟨p0, p1, p2, p3⟩ := p
      simp only [Option.bind_some]
      cases p3 with
      | false =>
        rw [if_neg (by simp), if_neg (by simp)]
        exact ⟨_, rfl, rfl, by simp, fun x hx => by simp at hx⟩
      | true =>
        obtain ⟨ha, hb, hc⟩ := hsk rfl
        simp only at ha hb hc
        obtain ⟨n, rfl⟩ := Int.eq_ofNat_of_zero_le hb.1
        have hin : i + (2 + n) ≤ s.size := by omega
        have hcut : u.extract (2 + (n : Int)).toNat u.size = s.extract (i + (2 + n)) s.size := by
          rw [show (2 + (n : Int)).toNat = 2 + n by omega]
          exact hee (2 + n) hin
        have f1 : (0 : Int) ≤ 2 + (n : Int) := by omega
        have f2 : 2 + (n : Int) ≤ (u.size : Int) := by omega
        obtain ⟨w1, w2⟩ := w_two n i s.size hin hs
        have ein := in14 p0
        have ein2 := in14' p0
        simp only [if_true, Option.bind_some]
        rw [w1, if_pos f1, if_pos f2, ein, ein2, hcut, w2]
        clear w1 w2
        simp only [Option.bind_some]
        by_cases hk4 : 1 ≤ p0 ∧ p0 ≤ 4
        · rw [decide_eq_true hk4]
          simp only [if_true]
          obtain ⟨b, q0, q1, q2, hbd, hbt, hbf, hsp, g, hg, hgf, hgt⟩ := both_of p0 p2 (k + 1) ha (by omega) (by omega)
          rw [hsp]
          simp only [Option.bind_some]
          rw [hg]
          simp only [Option.bind_some]
          have hj : ∀ (bb : Bool), bb = !b → ∃ r : List S38 × Int × Int × Bool, spec_ReadFrame.j1 (k + 1) s out left ((i + (2 + n) : Nat) : Int) bb q0 q1 q2 = some r ∧ ((impl_partOf.f (k + 1) p0 p2).bind fun bt192 => (if bt192.2.2.2 = true then (if (out.length : Int) = 10 then (some (([] : List (S38)), 0, 3, false)) else (if out.length < 2932031007402 then (impl_ReadFrame.l0 (k + 1) (s.extract (i + (2 + n)) s.size) (out ++ [(⟨bt192.1, bt192.2.1, bt192.2.2.1⟩ : S38)]) left) else (none))) else (some (([] : List (S38)), 0, 2, false)))) = some r ∧ r.1.length ≤ 10 ∧ ∀ x ∈ r.1, x.f2.length ≤ 20 := by
            intro bb hbb
            simp only [spec_ReadFrame.j1]
            cases b with
            | false =>
              obtain ⟨z0, z1, z2, hz⟩ := hbf rfl
              rw [hz, hbb]
              simp only [Option.bind_some, Bool.not_false, if_true]
              rw [if_neg (by simp)]
              exact ⟨_, rfl, rfl, by simp, fun x hx => by simp at hx⟩
            | true =>
              rw [hbt rfl, hbb]
              simp only [Option.bind_some, Bool.not_true, if_true]
              rw [if_neg (by simp)]
              by_cases h10 : (out.length : Int) = 10
              · rw [if_pos h10, if_pos h10]
                exact ⟨_, rfl, rfl, by simp, fun x hx => by simp at hx⟩
              · rw [if_neg h10, if_neg h10, if_pos (by omega), if_pos (by omega)]
                obtain ⟨r, e1, _, hr⟩ := ih (i + (2 + n)) (out ++ [⟨q0, q1, q2⟩]) left k hin (by omega) (by rw [List.length_append, List.length_singleton]; omega) (fun x hx2 => by
                  rcases List.mem_append.1 hx2 with hx2 | hx2
                  · exact hx x hx2
                  · rw [List.mem_singleton] at hx2
                    subst hx2
                    exact (hbd rfl).2) h0 (by omega) (by omega)
                obtain ⟨r2, e3, e4, _⟩ := ih (i + (2 + n)) (out ++ [⟨q0, q1, q2⟩]) left (k + 1) hin (by omega) (by rw [List.length_append, List.length_singleton]; omega) (fun x hx2 => by
                  rcases List.mem_append.1 hx2 with hx2 | hx2
                  · exact hx x hx2
                  · rw [List.mem_singleton] at hx2
                    subst hx2
                    exact (hbd rfl).2) h0 (by omega) (by omega)
                have em := spec_ReadFrame.mono_l k
                have er : r2 = r := by
                  have h2 := em.1 _ _ _ _ _ e1
                  rw [e3] at h2
                  exact Option.some.inj h2
                rw [er] at e4
                exact ⟨r, e1, e4, hr⟩
          cases g with
          | false =>
            rw [if_neg (by simp)]
            exact hj true (by rw [hgf rfl]; rfl)
          | true =>
            obtain ⟨z, hz, hzs, hzb⟩ := hgt rfl
            rw [if_pos rfl, hz]
            simp only [Option.bind_some]
            rw [hc] at hzs hzb
            have hnn : ((n : Nat) : Int) = (n : Int) := rfl
            rw [if_pos (by first | exact hzs | (rw [← hc] at hzs; exact hzs))]
            exact hj _ hzb
        · rw [decide_eq_false hk4]
          simp only [Bool.false_eq_true, if_false]
          rw [w64 (x := left + 1) (by omega) (by omega)]
          exact ih (i + (2 + n)) out (left + 1) (k + 1) hin (by omega) ho hx (by omega) (by omega) (by omega)
    · have e : s.extract i s.size = ⟨#[]⟩ := size_zero (by rw [ByteArray.size_extract]; omega)
      obtain ⟨k, rfl⟩ : ∃ m, k = m + 1 := ⟨k - 1, by omega⟩
      simp only [spec_ReadFrame.l0, impl_ReadFrame.l0]
      rw [if_neg (by omega), e, if_pos emptyList]
      exact ⟨_, rfl, rfl, ho, hx⟩
theorem FnExactReadFrame : laws_FnExactReadFrame.PureS := by
  intro s hs
  obtain ⟨K, hK⟩ : ∃ K, K = 1500 := ⟨_, rfl⟩
  refine ⟨K, ?_⟩
  unfold laws_FnExactReadFrame.f
  by_cases h0 : (s.size : Int) > 1048576
  · rw [if_pos h0]
  · rw [if_neg h0]
    obtain ⟨r, e1, e2, hrl, hrb⟩ : ∃ r : List S38 × Int × Int × Bool, spec_ReadFrame.f K s = some r ∧ impl_ReadFrame.f K s = some r ∧ r.1.length ≤ 10 ∧ ∀ x ∈ r.1, x.f2.length ≤ 20 := by
      unfold spec_ReadFrame.f impl_ReadFrame.f
      by_cases h : s.size ≤ 200
      · rw [if_neg (by omega), if_neg (by omega)]
        obtain ⟨r, a, b, c⟩ := both_read s h 200 0 [] 0 K (by omega) (by omega) (by simp) (fun x hx => by simp at hx) (by omega) (by omega) (by omega)
        rw [ByteArray.extract_zero_size] at b
        exact ⟨r, a, b, c⟩
      · rw [if_pos (by omega), if_pos (by omega)]
        exact ⟨_, rfl, rfl, by simp, fun x hx => by simp at hx⟩
    rw [e1, e2]
    have hz := szP_bd 20 r.1 hrb
    have hz2 : r.1.length * (2 + 20) ≤ 10 * (2 + 20) := Nat.mul_le_mul_right _ hrl
    simp only [Option.bind_some]
    rw [eqParts_refl r.1 20 K (by omega) (by omega) hrb (by omega)]
    simp only [Option.bind_some, if_true]
    rw [markP 20 (by omega) r.1 1 K hrb (by omega) (by omega) (by omega) (by omega)]
    simp only [Option.bind_some]
    rw [heldP 20 (by omega) r.1 1 K hrb (by omega) (by omega) (by omega) (by omega)]
    simp only [Option.bind_some]
    rw [if_pos trivial, if_pos (by omega)]

end Go.Proofs.Ytajfpfmbmkmafaa.Pure
