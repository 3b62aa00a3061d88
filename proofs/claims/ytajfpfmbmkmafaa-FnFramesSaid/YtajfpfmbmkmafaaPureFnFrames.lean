/- FnFrames answers true for all drawn parts. No condition beyond the row's own bounds. -/
import Derived.Test.YtajfpfmbmkmafaaSFnFrames
namespace Go.Proofs.Ytajfpfmbmkmafaa.Pure
open Go.RowKit Go.Proofs.Ytajfpfmbmkmafaa.PFnFrames Go.Proofs.YtajfpfmbmkmafaaW.PrintWords Go.Proofs.YtajfpfmbmkmafaaW.PrintLast
set_option linter.unusedVariables false
set_option linter.unusedSimpArgs false

-- w64
theorem w64 {x : Int} (h0 : -9223372036854775808 ≤ x) (h1 : x ≤ 9223372036854775807) : wrap64 x = x := by
  unfold wrap64
  omega
theorem tm {x y : Int} (h0 : 0 ≤ x) : Int.tmod x y = x % y := Int.tmod_eq_emod_of_nonneg h0
theorem wf64 {x : Int} (h : (Lit.int .i64 x).wf = true) : -9223372036854775808 ≤ x ∧ x ≤ 9223372036854775807 := by
  simp [Lit.wf, IntKind.min, IntKind.max, IntKind.signed, IntKind.bits] at h
  omega

-- inrange(impl_in)
theorem impl_in_eq (a lo hi : Int) : impl_in.f a lo hi = some (decide (lo ≤ a ∧ a ≤ hi)) := by
  unfold impl_in.f
  by_cases h : lo ≤ a
  · rw [if_pos (show a ≥ lo from h)]
    simp [h]
  · rw [if_neg (show ¬ a ≥ lo from h)]
    simp [h]

-- allin(impl_allIn,impl_in)
theorem impl_allIn_l (lo hi : Int) (l : List Int) (hn : l.length ≤ 4611686018427387904) (d : Nat) : ∀ (k i : Nat), i + d = l.length → d < k →
    impl_allIn.l0 k lo hi l l.length i = some ((l.drop i).all fun x => decide (lo ≤ x ∧ x ≤ hi)) := by
  induction d with
  | zero =>
    intro k i h hk
    obtain ⟨k, rfl⟩ : ∃ m, k = m + 1 := ⟨k - 1, by omega⟩
    simp only [impl_allIn.l0]
    rw [if_neg (by omega), List.drop_of_length_le (by omega)]
    rfl
  | succ d ih =>
    intro k i h hk
    obtain ⟨k, rfl⟩ : ∃ m, k = m + 1 := ⟨k - 1, by omega⟩
    have h1 := ih k (i + 1) (by omega) (by omega)
    have ea : l.drop i = rd l i :: l.drop (i + 1) := by
      unfold rd
      rw [Int.toNat_natCast, List.getD_eq_getElem?_getD, List.getElem?_eq_getElem (by omega)]
      exact List.drop_eq_getElem_cons (by omega)
    simp only [impl_allIn.l0]
    rw [if_pos (by omega), if_pos (by omega), if_pos (by omega), impl_in_eq, ea, List.all_cons]
    simp only [Option.bind_some]
    by_cases e : lo ≤ rd l i ∧ rd l i ≤ hi
    · rw [decide_eq_true e]
      simp only [if_true, Bool.true_and]
      rw [w64 (by omega) (by omega), show ((i : Int) + 1) = ((i + 1 : Nat) : Int) by omega]
      exact h1
    · rw [decide_eq_false e]
      simp
theorem impl_allIn_eq (l : List Int) (lo hi : Int) (k : Nat) (hn : l.length ≤ 4611686018427387904) (hk : l.length < k) : impl_allIn.f k l lo hi = some (l.all fun x => decide (lo ≤ x ∧ x ≤ hi)) := by
  have h := impl_allIn_l lo hi l hn l.length k 0 (by omega) hk
  unfold impl_allIn.f
  simpa using h

-- inrange(spec_l1In)
theorem spec_l1In_eq (a lo hi : Int) : spec_l1In.f a lo hi = some (decide (lo ≤ a ∧ a ≤ hi)) := by
  unfold spec_l1In.f
  by_cases h : lo ≤ a
  · rw [if_pos (show a ≥ lo from h)]
    simp [h]
  · rw [if_neg (show ¬ a ≥ lo from h)]
    simp [h]

-- goodpart
theorem noBytes {s : ByteArray} (h : s.toList = ([] : List UInt8)) : s.size = 0 := by
  rw [ByteArray.toList_eq] at h
  have h2 := congrArg List.length h
  simpa using h2
theorem spec_rise_l (c : List Int) (lo hi : Int) (hn : c.length ≤ 4611686018427387904) (d : Nat) : ∀ (k i : Nat), i + d = c.length → d < k →
    ∃ b, spec_l1Rising.l0 k c lo hi c c.length i = some b ∧ (b = true ↔ ∀ j : Nat, i ≤ j → j < c.length → (lo ≤ rd c (j : Int) ∧ rd c (j : Int) ≤ hi) ∧ (0 < j → rd c ((j : Int) - 1) < rd c (j : Int))) := by
  induction d with
  | zero =>
    intro k i h hk
    obtain ⟨k, rfl⟩ : ∃ m, k = m + 1 := ⟨k - 1, by omega⟩
    simp only [spec_l1Rising.l0]
    rw [if_neg (by omega)]
    exact ⟨true, rfl, fun _ j h1 h2 => absurd h2 (by omega), fun _ => rfl⟩
  | succ d ih =>
    intro k i h hk
    obtain ⟨k, rfl⟩ : ∃ m, k = m + 1 := ⟨k - 1, by omega⟩
    obtain ⟨b, e, hb⟩ := ih k (i + 1) (by omega) (by omega)
    simp only [spec_l1Rising.l0, spec_l1In_eq]
    rw [if_pos (by omega), if_pos (by omega), if_pos (by omega)]
    simp only [Option.bind_some]
    rw [w64 (x := (i : Int) + 1) (by omega) (by omega), w64 (x := (i : Int) - 1) (by omega) (by omega), show ((i : Int) + 1) = ((i + 1 : Nat) : Int) by omega, e]
    by_cases h1 : lo ≤ rd c (i : Int) ∧ rd c (i : Int) ≤ hi
    · rw [if_pos (decide_eq_true h1)]
      by_cases h2 : (i : Int) > 0
      · rw [if_pos h2, if_pos (by omega), if_pos (by omega)]
        by_cases h3 : rd c ((i : Int) - 1) ≥ rd c (i : Int)
        · rw [if_pos h3]
          exact ⟨false, rfl, fun h => absurd h Bool.false_ne_true, fun h => absurd ((h i (Nat.le_refl _) (by omega)).2 (by omega)) (by omega)⟩
        · rw [if_neg h3]
          refine ⟨b, rfl, hb.trans ⟨fun h j g1 g2 => ?_, fun h j g1 g2 => h j (by omega) g2⟩⟩
          by_cases g : j = i
          · subst g
            exact ⟨h1, fun _ => by omega⟩
          · exact h j (by omega) g2
      · rw [if_neg h2]
        refine ⟨b, rfl, hb.trans ⟨fun h j g1 g2 => ?_, fun h j g1 g2 => h j (by omega) g2⟩⟩
        by_cases g : j = i
        · subst g
          exact ⟨h1, fun _ => by omega⟩
        · exact h j (by omega) g2
    · rw [decide_eq_false h1, if_neg Bool.false_ne_true]
      exact ⟨false, rfl, fun h => absurd h Bool.false_ne_true, fun h => absurd ((h i (Nat.le_refl _) (by omega)).1) h1⟩
theorem impl_rise_l (c : List Int) (hn : c.length ≤ 4611686018427387904) (d : Nat) : ∀ (k i : Nat), c.length ≤ i + d → 1 ≤ i → i ≤ c.length + 1 → d < k →
    ∃ b, impl_rising.l0 k c i = some b ∧ (b = true ↔ ∀ j : Nat, i ≤ j → j < c.length → rd c ((j : Int) - 1) < rd c (j : Int)) := by
  induction d with
  | zero =>
    intro k i h hi hi2 hk
    obtain ⟨k, rfl⟩ : ∃ m, k = m + 1 := ⟨k - 1, by omega⟩
    simp only [impl_rising.l0]
    rw [if_neg (by omega)]
    exact ⟨true, rfl, fun _ j h1 h2 => absurd h2 (by omega), fun _ => rfl⟩
  | succ d ih =>
    intro k i h hi hi2 hk
    obtain ⟨k, rfl⟩ : ∃ m, k = m + 1 := ⟨k - 1, by omega⟩
    simp only [impl_rising.l0]
    by_cases h0 : (i : Int) < c.length
    · obtain ⟨b, e, hb⟩ := ih k (i + 1) (by omega) (by omega) (by omega) (by omega)
      rw [if_pos h0, w64 (x := (i : Int) + 1) (by omega) (by omega), w64 (x := (i : Int) - 1) (by omega) (by omega), show ((i : Int) + 1) = ((i + 1 : Nat) : Int) by omega, e, if_pos (by omega), if_pos (by omega), if_pos (by omega)]
      by_cases h3 : rd c ((i : Int) - 1) ≥ rd c (i : Int)
      · rw [if_pos h3]
        exact ⟨false, rfl, fun h => absurd h Bool.false_ne_true, fun h => absurd ((h i (Nat.le_refl _) (by omega))) (by omega)⟩
      · rw [if_neg h3]
        refine ⟨b, rfl, hb.trans ⟨fun h j g1 g2 => ?_, fun h j g1 g2 => h j (by omega) g2⟩⟩
        by_cases g : j = i
        · subst g
          omega
        · exact h j (by omega) g2
    · rw [if_neg h0]
      exact ⟨true, rfl, fun _ j h1 h2 => absurd h2 (by omega), fun _ => rfl⟩
theorem both_rise (c : List Int) (k : Nat) (hn : c.length ≤ 4611686018427387904) (hk : c.length + 1 < k) :
    ∃ b, spec_l1Rising.f k c 0 65535 = some b ∧ ((impl_rising.f k c).bind fun t => if t = true then ((impl_allIn.f k c 0 65535).bind fun u => some u) else some false) = some b := by
  obtain ⟨b, e, hb⟩ := spec_rise_l c 0 65535 hn c.length k 0 (by omega) (by omega)
  obtain ⟨b2, e2, hb2⟩ := impl_rise_l c hn c.length k 1 (by omega) (by omega) (by omega) (by omega)
  refine ⟨b, e, ?_⟩
  unfold impl_rising.f
  rw [show (1 : Int) = ((1 : Nat) : Int) by rfl, e2, impl_allIn_eq _ _ _ _ hn (by omega)]
  simp only [Option.bind_some]
  have ha : (c.all fun x => decide (0 ≤ x ∧ x ≤ 65535)) = true ↔ ∀ j : Nat, j < c.length → 0 ≤ rd c (j : Int) ∧ rd c (j : Int) ≤ 65535 := by
    rw [List.all_eq_true]
    constructor
    · intro h j hj
      have := h c[j] (List.getElem_mem hj)
      unfold rd
      rw [Int.toNat_natCast, List.getD_eq_getElem?_getD, List.getElem?_eq_getElem hj]
      simpa using this
    · intro h x hx
      obtain ⟨j, hj, rfl⟩ := List.mem_iff_getElem.1 hx
      have := h j hj
      unfold rd at this
      rw [Int.toNat_natCast, List.getD_eq_getElem?_getD, List.getElem?_eq_getElem hj] at this
      simpa using this
  by_cases h2 : b2 = true
  · rw [if_pos h2]
    congr 1
    rw [Bool.eq_iff_iff, ha, hb]
    rw [hb2] at h2
    exact ⟨fun h j _ hj => ⟨h j hj, fun h0 => h2 j (by omega) hj⟩, fun h j hj => (h j (by omega) hj).1⟩
  · rw [if_neg h2]
    congr 1
    symm
    rw [Bool.eq_false_iff]
    intro h
    rw [hb] at h
    rw [hb2] at h2
    exact h2 fun j h1 hj => (h j (by omega) hj).2 (by omega)
theorem both_name_l (a : Int) (s : ByteArray) (c : List Int) (hn : s.size ≤ 4611686018427387904) (d : Nat) : ∀ (k i : Nat), i + d = s.size → d < k →
    ∃ b, spec_GoodPart.l0 k i a s c = some b ∧ impl_GoodPart.l0 k s.size i a s c = some b ∧ (b = true → s.size ≤ 20 ∧ c.length = 0) := by
  induction d with
  | zero =>
    intro k i h hk
    obtain ⟨k, rfl⟩ : ∃ m, k = m + 1 := ⟨k - 1, by omega⟩
    simp only [spec_GoodPart.l0, impl_GoodPart.l0, spec_l1In_eq, impl_in_eq]
    rw [if_neg (by omega), if_neg (by omega)]
    simp only [Option.bind_some]
    by_cases h1 : (1 : Int) ≤ s.size ∧ (s.size : Int) ≤ 20
    · rw [decide_eq_true h1]
      simp only [if_true]
      exact ⟨_, rfl, rfl, fun h => ⟨by omega, by have := of_decide_eq_true h; simpa using h⟩⟩
    · rw [decide_eq_false h1]
      simp only [Bool.false_eq_true, if_false]
      exact ⟨_, rfl, rfl, fun h => absurd h Bool.false_ne_true⟩
  | succ d ih =>
    intro k i h hk
    obtain ⟨k, rfl⟩ : ∃ m, k = m + 1 := ⟨k - 1, by omega⟩
    obtain ⟨b, e, e2, hb⟩ := ih k (i + 1) (by omega) (by omega)
    simp only [spec_GoodPart.l0, impl_GoodPart.l0]
    have g1 : (i : Int) < s.size := by omega
    have g2 : (0 : Int) ≤ i := by omega
    rw [if_pos g1, if_pos g2, if_pos g1, if_pos g2, if_pos g1, w64 (x := (i : Int) + 1) (by omega) (by omega), show ((i : Int) + 1) = ((i + 1 : Nat) : Int) by omega, e, e2]
    by_cases h1 : bt s (i : Int) < 97
    · rw [if_pos h1]
      exact ⟨_, rfl, rfl, fun h => absurd h Bool.false_ne_true⟩
    · rw [if_neg h1]
      by_cases h2 : bt s (i : Int) > 122
      · rw [if_pos h2]
        exact ⟨_, rfl, rfl, fun h => absurd h Bool.false_ne_true⟩
      · rw [if_neg h2]
        exact ⟨b, rfl, rfl, hb⟩
theorem both_j1 (x a : Int) (t : Bool) (s : ByteArray) (c : List Int) (k : Nat) (hn : c.length ≤ 4611686018427387904) (hk : c.length + 2 < k) :
    ∃ b, spec_GoodPart.j1 k x t a s c = some b ∧ impl_GoodPart.j1 k x t a s c = some b ∧ (b = true → s.size ≤ 20 ∧ c.length ≤ 20) := by
  obtain ⟨k, rfl⟩ : ∃ m, k = m + 1 := ⟨k - 1, by omega⟩
  obtain ⟨b, e1, e2⟩ := both_rise c k hn (by omega)
  simp only [spec_GoodPart.j1, impl_GoodPart.j1]
  have no : ∃ b, (some false : Option Bool) = some b ∧ (some false : Option Bool) = some b ∧ (b = true → s.size ≤ 20 ∧ c.length ≤ 20) := ⟨_, rfl, rfl, fun h => absurd h Bool.false_ne_true⟩
  by_cases ht : t = true
  · rw [if_pos ht, if_pos ht]
    by_cases h1 : s.toList = ([] : List UInt8)
    · rw [if_pos h1, if_pos h1]
      have := noBytes h1
      by_cases h2 : (c.length : Int) ≤ 20
      · rw [if_pos h2, if_pos h2, e1, e2]
        exact ⟨b, rfl, rfl, fun _ => by omega⟩
      · rw [if_neg h2, if_neg h2]
        exact no
    · rw [if_neg h1, if_neg h1]
      exact no
  · rw [if_neg ht, if_neg ht]
    by_cases hx : x = 4
    · rw [if_pos hx, if_pos hx]
      by_cases h1 : s.toList = ([] : List UInt8)
      · rw [if_pos h1, if_pos h1]
        have := noBytes h1
        by_cases h2 : (c.length : Int) = 1
        · rw [if_pos h2, if_pos h2, if_pos (by omega), if_pos (by omega), spec_l1In_eq, impl_in_eq]
          exact ⟨_, rfl, rfl, fun _ => by omega⟩
        · rw [if_neg h2, if_neg h2]
          exact no
      · rw [if_neg h1, if_neg h1]
        exact no
    · rw [if_neg hx, if_neg hx]
      exact no
theorem both_part (a : Int) (s : ByteArray) (c : List Int) (k : Nat) (hs : s.size ≤ 4611686018427387904) (hn : c.length ≤ 4611686018427387904) (hk : s.size + c.length + 2 < k) :
    ∃ b, spec_GoodPart.f k a s c = some b ∧ impl_GoodPart.f k a s c = some b ∧ (b = true → s.size ≤ 20 ∧ c.length ≤ 20) := by
  unfold spec_GoodPart.f impl_GoodPart.f
  by_cases h1 : a = 1
  · rw [if_pos h1, if_pos h1]
    obtain ⟨b, e1, e2, hb⟩ := both_name_l a s c hs s.size k 0 (by omega) (by omega)
    exact ⟨b, e1, e2, fun h => by have := hb h; omega⟩
  · rw [if_neg h1, if_neg h1]
    by_cases h2 : a = 2
    · rw [if_pos h2, if_pos h2]
      exact both_j1 _ _ _ _ _ _ hn (by omega)
    · rw [if_neg h2, if_neg h2]
      exact both_j1 _ _ _ _ _ _ hn (by omega)

-- bits16
theorem wraps_i64 (n : Int) (h₀ : 0 ≤ n) (h₁ : n < 2 ^ 20) : IntKind.i64.wrap n = n := by
  have h : n < 1048576 := h₁
  rw [IntKind.wrap_i64]
  omega
/-- Two bytes beside each other: 'or' of them is their sum. -/
theorem or16 (x y : Int) (hx : 0 ≤ x ∧ x ≤ 255) (hy : 0 ≤ y ∧ y ≤ 255) : Go.bits .or .i64 (x * 256) y = x * 256 + y := by
  have e8 : (2 : Int) ^ 8 = 256 := rfl
  have e20 : (2 : Int) ^ 20 = 1048576 := rfl
  exact bits_join .i64 20 (by decide) wraps_i64 8 (x * 256) y (by omega) (by rw [e8]; omega) (by rw [e20]; omega) (by omega) (by rw [e8]; omega) (by rw [e20]; omega)

-- tk
/-- The numbers of a text, two bytes each, from a place on. -/
def tk (s : ByteArray) (i : Nat) : Nat → List Int
  | 0 => []
  | n + 1 => (bt s i * 256 + bt s (i + 1 : Nat)) :: tk s (i + 2) n
theorem tk_snoc (s : ByteArray) : ∀ (n i : Nat), tk s i (n + 1) = tk s i n ++ [bt s (i + 2 * n : Nat) * 256 + bt s (i + 2 * n + 1 : Nat)]
  | 0, i => by simp [tk]
  | n + 1, i => by
    have h := tk_snoc s n (i + 2)
    rw [tk, h]
    simp only [tk, List.cons_append]
    rw [show i + 2 + 2 * n = i + 2 * (n + 1) by omega]
theorem tk_len (s : ByteArray) : ∀ (n i : Nat), (tk s i n).length = n
  | 0, i => rfl
  | n + 1, i => by simp [tk, tk_len s n]

-- impltake
theorem impl_take_l (s : ByteArray) (hs : s.size ≤ 40) (d : Nat) : ∀ (k n : Nat), 2 * n + 2 * d = s.size → d < k →
    impl_TakeNums.l0 k s (tk s 0 n) (2 * n : Nat) = some (tk s 0 (s.size / 2), true) := by
  induction d with
  | zero =>
    intro k n h hk
    obtain ⟨k, rfl⟩ : ∃ m, k = m + 1 := ⟨k - 1, by omega⟩
    simp only [impl_TakeNums.l0]
    rw [if_neg (by omega)]
    obtain rfl : n = s.size / 2 := by omega
    rfl
  | succ d ih =>
    intro k n h hk
    obtain ⟨k, rfl⟩ : ∃ m, k = m + 1 := ⟨k - 1, by omega⟩
    have h1 := ih k (n + 1) (by omega) (by omega)
    have b0 := bt_range s (2 * n : Nat)
    have b1 := bt_range s (2 * n + 1 : Nat)
    simp only [impl_TakeNums.l0]
    rw [w64 (x := ((2 * n : Nat) : Int) + 1) (by omega) (by omega), if_pos (by omega), if_pos (by omega), if_pos (by omega), if_pos (by omega), if_pos (by rw [tk_len]; omega)]
    rw [show ((2 * n : Nat) : Int) + 1 = ((2 * n + 1 : Nat) : Int) by omega, w64 (x := bt s (2 * n : Nat)) (by omega) (by omega), w64 (x := bt s (2 * n : Nat) * 256) (by omega) (by omega), w64 (x := bt s (2 * n + 1 : Nat)) (by omega) (by omega),
      or16 _ _ b0 b1, w64 (by omega) (by omega)]
    have e := tk_snoc s n 0
    rw [Nat.zero_add] at e
    rw [← e, show ((2 * n : Nat) : Int) + 2 = ((2 * (n + 1) : Nat) : Int) by omega]
    exact h1
theorem impl_TakeNums_f (s : ByteArray) (k : Nat) (hk : s.size + 1 < k) : impl_TakeNums.f k s = some (if s.size ≤ 40 ∧ s.size % 2 = 0 then (tk s 0 (s.size / 2), true) else ([], false)) := by
  obtain ⟨k, rfl⟩ : ∃ m, k = m + 1 := ⟨k - 1, by omega⟩
  unfold impl_TakeNums.f
  by_cases h : s.size ≤ 40
  · rw [if_neg (by omega)]
    simp only [impl_TakeNums.j0]
    by_cases h2 : s.size % 2 = 0
    · rw [if_neg (by simp; omega), if_pos ⟨h, h2⟩]
      have h := impl_take_l s h (s.size / 2) k 0 (by omega) (by omega)
      simpa [tk] using h
    · rw [if_pos (by simp; omega), if_neg (fun e => h2 e.2)]
  · rw [if_pos (by omega), if_neg (fun e => h e.1)]
    simp only [impl_TakeNums.j0]
    simp

-- two
/-- Numbers as bytes, two each. -/
def two (l : List Int) : List Int := l.flatMap fun x => [x / 256 % 256, x % 256]
theorem two_len (l : List Int) : (two l).length = 2 * l.length := by
  unfold two
  induction l with
  | nil => rfl
  | cons a l ih => rw [List.flatMap_cons, List.length_append, ih]; simp; omega
theorem two_snoc (l : List Int) (x : Int) : two (l ++ [x]) = two l ++ [x / 256 % 256, x % 256] := by simp [two]

-- strsize
theorem strSize (l : List Int) : (strOfNums l).size = l.length := by
  simp [strOfNums, ByteArray.size]

-- puts(spec_l2Put)
theorem spec_l2Put_l (l : List Int) (hn : l.length ≤ 1000000) (d : Nat) : ∀ (k i : Nat), i + d = l.length → d < k →
    spec_l2Put.l0 k (two (l.take i)) l l.length i = some (strOfNums (two l)) := by
  induction d with
  | zero =>
    intro k i h hk
    obtain ⟨k, rfl⟩ : ∃ m, k = m + 1 := ⟨k - 1, by omega⟩
    simp only [spec_l2Put.l0]
    rw [if_neg (by omega), List.take_of_length_le (by omega)]
  | succ d ih =>
    intro k i h hk
    obtain ⟨k, rfl⟩ : ∃ m, k = m + 1 := ⟨k - 1, by omega⟩
    have h1 := ih k (i + 1) (by omega) (by omega)
    have ea : l.take (i + 1) = l.take i ++ [rd l i] := by
      unfold rd
      rw [Int.toNat_natCast, List.getD_eq_getElem?_getD, List.getElem?_eq_getElem (by omega)]
      exact List.take_succ_eq_append_getElem (by omega)
    have hl := two_len (l.take i)
    have hl2 : (l.take i).length ≤ l.length := by rw [List.length_take]; omega
    simp only [spec_l2Put.l0]
    rw [if_pos (by omega), if_pos (by omega), if_pos (by omega)]
    simp only [Option.bind_some, List.length_cons, List.length_nil]
    rw [if_pos (by omega), ← two_snoc, ← ea, w64 (by omega) (by omega), show ((i : Int) + 1) = ((i + 1 : Nat) : Int) by omega]
    exact h1
theorem spec_l2Put_eq (l : List Int) (k : Nat) (hn : l.length ≤ 1000000) (hk : l.length < k) : spec_l2Put.f k l = some (strOfNums (two l)) := by
  have h := spec_l2Put_l l hn l.length k 0 (by omega) hk
  unfold spec_l2Put.f
  simpa [two] using h

-- withs0
theorem bytes_str (l : List Int) (h : ∀ x ∈ l, 0 ≤ x ∧ x ≤ 255) : bytesOf (strOfNums l) = l := by
  unfold bytesOf
  rw [strOfNums_data, List.map_map]
  conv => rhs; rw [← List.map_id l]
  apply List.map_congr_left
  intro x hx
  have := h x hx
  simp [Function.comp]
  omega
theorem str_bytes (s : ByteArray) : strOfNums (bytesOf s) = s := by
  have h : (strOfNums (bytesOf s)).data.toList = s.data.toList := by
    rw [strOfNums_data]
    unfold bytesOf
    rw [List.map_map]
    conv => rhs; rw [← List.map_id s.data.toList]
    apply List.map_congr_left
    intro x _
    simp [Function.comp]
  obtain ⟨⟨a⟩⟩ := s
  exact congrArg (fun l : List UInt8 => (⟨⟨l⟩⟩ : ByteArray)) h
theorem bytes_in (s : ByteArray) : ∀ x ∈ bytesOf s, 0 ≤ x ∧ x ≤ 255 := by
  intro x hx
  unfold bytesOf at hx
  obtain ⟨b, _, rfl⟩ := List.mem_map.1 hx
  have := b.toNat_lt
  omega
theorem str_app (a b : List Int) : strOfNums a ++ strOfNums b = strOfNums (a ++ b) := by
  have h : (strOfNums a ++ strOfNums b).data.toList = (strOfNums (a ++ b)).data.toList := by
    rw [strOfNums_data, ByteArray.data_append, Array.toList_append, strOfNums_data, strOfNums_data, List.map_append]
  generalize strOfNums a ++ strOfNums b = x at h
  generalize strOfNums (a ++ b) = y at h
  obtain ⟨⟨x⟩⟩ := x
  obtain ⟨⟨y⟩⟩ := y
  exact congrArg (fun l : List UInt8 => (⟨⟨l⟩⟩ : ByteArray)) h
theorem str_cut (s : ByteArray) (i j : Nat) (hj : j ≤ s.size) : s.extract i j = strOfNums (((bytesOf s).take j).drop i) := by
  have h : (s.extract i j).data.toList = (strOfNums (((bytesOf s).take j).drop i)).data.toList := by
    rw [strOfNums_data, ByteArray.data_extract, Array.toList_extract]
    unfold bytesOf
    rw [List.map_drop, List.map_take, List.map_map]
    rw [show (fun n : Int => UInt8.ofNat n.toNat) ∘ (fun b : UInt8 => (b.toNat : Int)) = id by funext b; simp [Function.comp]]
    rw [List.map_id]
    simp [List.extract, List.drop_take]
  generalize s.extract i j = x at h
  generalize strOfNums (((bytesOf s).take j).drop i) = y at h
  obtain ⟨⟨x⟩⟩ := x
  obtain ⟨⟨y⟩⟩ := y
  exact congrArg (fun l : List UInt8 => (⟨⟨l⟩⟩ : ByteArray)) h

-- btnat
theorem bt_nat (s : ByteArray) (i : Nat) (h : i < s.size) : bt s (i : Int) = (bytesOf s)[i]'(by rw [bytesOf_length]; exact h) := by
  unfold bt bytesOf
  simp [h]
  rfl
theorem bt_get (s : ByteArray) (i : Nat) (h : i < s.size) : (bytesOf s)[i]? = some (bt s (i : Int)) := by
  rw [bt_nat s i h, List.getElem?_eq_getElem]

-- skipr
/-- The first part of a text: its kind, its length. -/
def skipR (s : ByteArray) : Int × Int × ByteArray × Bool :=
  if (2 ≤ s.size ∧ s.size ≤ 200) ∧ bt s 1 ≤ (s.size : Int) - 2 then (bt s 0, bt s 1, s.extract 2 (2 + bt s 1).toNat, true) else (0, 0, ⟨#[]⟩, false)
theorem impl_skip (s : ByteArray) (hs : s.size ≤ 200) : impl_SkipPart.f s = some (skipR s) := by
  have b0 := bt_range s 0
  have b1 := bt_range s 1
  unfold impl_SkipPart.f skipR
  rw [w64 (x := bt s 0) (by omega) (by omega), w64 (x := bt s 1) (by omega) (by omega), w64 (x := (s.size : Int) - 2) (by omega) (by omega), w64 (x := 2 + bt s 1) (by omega) (by omega)]
  rw [if_neg (show ¬ (s.size : Int) > 200 by omega)]
  by_cases h1 : (2 : Int) ≤ s.size
  · rw [if_neg (show ¬ (s.size : Int) < 2 by omega), if_pos (show (1 : Int) < s.size by omega)]
    by_cases h3 : (s.size : Int) - 2 < bt s 1
    · rw [if_pos h3, if_neg (by omega)]
    · rw [if_neg h3, if_pos (show (0 : Int) < s.size by omega), if_pos (show (2 : Int) ≤ 2 + bt s 1 by omega), if_pos (show 2 + bt s 1 ≤ (s.size : Int) by omega), if_pos (by omega)]
  · rw [if_pos (show (s.size : Int) < 2 by omega), if_neg (by omega)]

-- frameread
/-- Pairs of bytes, told as numbers and back. -/
theorem two_tk (s : ByteArray) : ∀ (n i : Nat), i + 2 * n ≤ s.size → two (tk s i n) = ((bytesOf s).drop i).take (2 * n)
  | 0, i, _ => by simp [two, tk]
  | n + 1, i, h => by
    have ih := two_tk s n (i + 2) (by omega)
    have hb := bt_range s (i : Nat)
    have hc := bt_range s (i + 1 : Nat)
    have hl : (bytesOf s).length = s.size := bytesOf_length s
    have e : (bytesOf s).drop i = bt s (i : Nat) :: bt s (i + 1 : Nat) :: (bytesOf s).drop (i + 2) := by
      rw [List.drop_eq_getElem_cons (by omega), List.drop_eq_getElem_cons (i := i + 1) (by omega), bt_nat s i (by omega), bt_nat s (i + 1) (by omega)]
    rw [e, show 2 * (n + 1) = 2 * n + 1 + 1 by omega, List.take_succ_cons, List.take_succ_cons, ← ih]
    unfold two
    simp only [tk, List.flatMap_cons, List.cons_append, List.nil_append]
    rw [show (bt s (i : Nat) * 256 + bt s (i + 1 : Nat)) / 256 % 256 = bt s (i : Nat) by omega, show (bt s (i : Nat) * 256 + bt s (i + 1 : Nat)) % 256 = bt s (i + 1 : Nat) by omega]
theorem spec_take_any_l (s : ByteArray) (hs : s.size ≤ 300) (d : Nat) : ∀ (k n : Nat), 2 * n + 2 * d ≤ s.size → s.size ≤ 2 * n + 2 * d + 1 → d < k → spec_l2Take.l0 k s (tk s 0 n) (2 * n : Nat) = some (tk s 0 (s.size / 2)) := by
  induction d with
  | zero =>
    intro k n h h2 hk
    obtain ⟨k, rfl⟩ : ∃ m, k = m + 1 := ⟨k - 1, by omega⟩
    simp only [spec_l2Take.l0]
    rw [w64 (by omega) (by omega), if_neg (by omega)]
    obtain rfl : n = s.size / 2 := by omega
    rfl
  | succ d ih =>
    intro k n h h2 hk
    obtain ⟨k, rfl⟩ : ∃ m, k = m + 1 := ⟨k - 1, by omega⟩
    have h1 := ih k (n + 1) (by omega) (by omega) (by omega)
    have b0 := bt_range s (2 * n : Nat)
    have b1 := bt_range s (2 * n + 1 : Nat)
    simp only [spec_l2Take.l0]
    rw [w64 (x := ((2 * n : Nat) : Int) + 1) (by omega) (by omega), if_pos (by omega), if_pos (by omega), if_pos (by omega), if_pos (by omega), if_pos (by rw [tk_len]; omega)]
    rw [show ((2 * n : Nat) : Int) + 1 = ((2 * n + 1 : Nat) : Int) by omega, w64 (x := bt s (2 * n : Nat)) (by omega) (by omega), w64 (x := bt s (2 * n : Nat) * 256) (by omega) (by omega), w64 (x := bt s (2 * n + 1 : Nat)) (by omega) (by omega),
      w64 (x := bt s (2 * n : Nat) * 256 + bt s (2 * n + 1 : Nat)) (by omega) (by omega), w64 (by omega) (by omega)]
    have e := tk_snoc s n 0
    rw [Nat.zero_add] at e
    rw [← e, show ((2 * n : Nat) : Int) + 2 = ((2 * (n + 1) : Nat) : Int) by omega]
    exact h1
theorem spec_take_any (s : ByteArray) (hs : s.size ≤ 300) (k : Nat) (hk : s.size < k) : spec_l2Take.f k s = some (tk s 0 (s.size / 2)) := by
  have h := spec_take_any_l s hs (s.size / 2) k 0 (by omega) (by omega) (by omega)
  unfold spec_l2Take.f
  simpa [tk] using h
theorem spec_skip (s : ByteArray) (hs : s.size ≤ 200) : spec_SkipPart.f s = some (skipR s) := by
  have b0 := bt_range s 0
  have b1 := bt_range s 1
  unfold spec_SkipPart.f spec_l1In.f skipR
  rw [w64 (x := bt s 0) (by omega) (by omega), w64 (x := bt s 1) (by omega) (by omega), w64 (x := (s.size : Int) - 2) (by omega) (by omega), w64 (x := 2 + bt s 1) (by omega) (by omega)]
  by_cases h1 : (2 : Int) ≤ s.size
  · rw [if_pos (show (s.size : Int) ≥ 2 from h1), decide_eq_true (show (s.size : Int) ≤ 200 by omega)]
    simp only [Option.bind_some, if_true]
    rw [if_pos (show (1 : Int) < s.size by omega)]
    by_cases h3 : (s.size : Int) - 2 < bt s 1
    · rw [if_pos (show bt s 1 > (s.size : Int) - 2 from h3), if_neg (by omega)]
    · rw [if_neg (show ¬ bt s 1 > (s.size : Int) - 2 from h3), if_pos (show (0 : Int) < s.size by omega), if_pos (show (2 : Int) ≤ 2 + bt s 1 by omega), if_pos (show 2 + bt s 1 ≤ (s.size : Int) by omega), if_pos (by omega)]
  · rw [if_neg (show ¬ (s.size : Int) ≥ 2 from h1), if_neg (show ¬ ((2 ≤ s.size ∧ s.size ≤ 200) ∧ bt s 1 ≤ (s.size : Int) - 2) from fun e => h1 (by omega))]
    simp
theorem size_zero {s : ByteArray} (h : s.size = 0) : s = ⟨#[]⟩ := by
  obtain ⟨⟨a⟩⟩ := s
  cases a with
  | nil => rfl
  | cons x a => simp [ByteArray.size] at h
theorem list_size (a : ByteArray) : a.toList.length = a.size := by
  rw [ByteArray.toList_eq]
  exact Array.length_toList
theorem toList_ne {a b : ByteArray} (h : a.size ≠ b.size) : (a.toList != b.toList) = true := by
  rw [bne_iff_ne]
  intro e
  apply h
  have h2 := congrArg List.length e
  rwa [list_size, list_size] at h2
/-- What is read of a part: whether it is good, and its fields. -/
theorem both_of (a : Int) (t : ByteArray) (k : Nat) (ha : 0 ≤ a ∧ a ≤ 255) (ht : t.size ≤ 255) (hk : 600 < k) :
    ∃ (b : Bool) (p0 : Int) (p1 : ByteArray) (p2 : List Int), (b = true → p1.size ≤ 20 ∧ p2.length ≤ 20) ∧ (b = true → impl_partOf.f k a t = some (p0, p1, p2, true)) ∧ (b = false → ∃ q0 q1 q2, impl_partOf.f k a t = some (q0, q1, q2, false)) ∧
      spec_l2Part.f k a t = some (p0, p1, p2) ∧ ∃ g, spec_GoodPart.f k p0 p1 p2 = some g ∧ (g = false → b = false) ∧
        (g = true → ∃ z, spec_l2Text.f k p0 p1 p2 = some z ∧ (strOfNums ([a % 256, (t.size : Int) % 256] : List Int)).size + t.size ≤ 9223372036854775807 ∧ (z.toList != ((strOfNums ([a % 256, (t.size : Int) % 256] : List Int)) ++ t).toList) = !b) := by
  have hz2 : (strOfNums ([a % 256, (t.size : Int) % 256] : List Int)).size = 2 := by rw [strSize]; rfl
  by_cases h1 : a = 1
  · obtain ⟨b, e1, e2, hb⟩ := both_part a t [] k (by omega) (by simp) (by simp only [List.length_nil]; omega)
    refine ⟨b, a, t, [], fun h => hb h, fun h => ?_, fun h => ?_, ?_, b, e1, id, fun h => ?_⟩
    · unfold impl_partOf.f
      rw [if_pos h1, e2, h]
      rfl
    · refine ⟨a, t, [], ?_⟩
      unfold impl_partOf.f
      rw [if_pos h1, e2, h]
      rfl
    · unfold spec_l2Part.f
      rw [if_pos h1]
    · unfold spec_l2Text.f
      rw [spec_l2Put_eq [] k (by simp) (by simp only [List.length_nil]; omega)]
      simp only [Option.bind_some]
      have ez : t ++ strOfNums (two []) = t := by
        rw [show strOfNums (two []) = (⟨#[]⟩ : ByteArray) from rfl]
        exact ByteArray.append_empty
      have es : (strOfNums (two [])).size = 0 := by rw [strSize]; rfl
      rw [if_pos (by omega), ez, if_pos (by omega)]
      exact ⟨_, rfl, by omega, by rw [h]; simp⟩
  · have esz : (⟨#[]⟩ : ByteArray).size = 0 := rfl
    obtain ⟨g, e1, e2, hg⟩ := both_part a ⟨#[]⟩ (tk t 0 (t.size / 2)) k (by rw [esz]; omega) (by rw [tk_len]; omega) (by rw [tk_len, esz]; omega)
    have e4 : spec_l2Part.f k a t = some (a, ⟨#[]⟩, tk t 0 (t.size / 2)) := by
      unfold spec_l2Part.f
      rw [if_neg h1, spec_take_any t (by omega) k (by omega)]
      rfl
    have e5 := impl_TakeNums_f t k (by omega)
    have hput := spec_l2Put_eq (tk t 0 (t.size / 2)) k (by rw [tk_len]; omega) (by rw [tk_len]; omega)
    have hps : (strOfNums (two (tk t 0 (t.size / 2)))).size = 2 * (t.size / 2) := by rw [strSize, two_len, tk_len]
    by_cases hev : t.size % 2 = 0
    · by_cases h40 : t.size ≤ 40
      · rw [if_pos ⟨h40, hev⟩] at e5
        refine ⟨g, a, ⟨#[]⟩, tk t 0 (t.size / 2), fun h => hg h, fun h => ?_, fun h => ?_, e4, g, e1, id, fun h => ?_⟩
        · unfold impl_partOf.f
          rw [if_neg h1, e5]
          simp only [Option.bind_some, if_true]
          rw [e2, h]
          rfl
        · refine ⟨a, ⟨#[]⟩, tk t 0 (t.size / 2), ?_⟩
          unfold impl_partOf.f
          rw [if_neg h1, e5]
          simp only [Option.bind_some, if_true]
          rw [e2, h]
          rfl
        · unfold spec_l2Text.f
          rw [hput]
          simp only [Option.bind_some]
          have em : two (tk t 0 (t.size / 2)) = bytesOf t := by
            rw [two_tk t _ 0 (by omega), List.drop_zero, List.take_of_length_le (by rw [bytesOf_length]; omega)]
          have ez : (⟨#[]⟩ : ByteArray) ++ strOfNums (two (tk t 0 (t.size / 2))) = t := by
            rw [em, str_bytes]
            exact ByteArray.empty_append
          rw [if_pos (by rw [esz, hps]; omega), ez, if_pos (by omega)]
          exact ⟨_, rfl, by omega, by rw [h]; simp⟩
      · have hgf : g = false := by
          cases hgg : g with
          | false => rfl
          | true => have := (hg hgg).2; rw [tk_len] at this; omega
        rw [if_neg (fun e => h40 e.1)] at e5
        refine ⟨false, a, ⟨#[]⟩, tk t 0 (t.size / 2), fun h => by simp at h, fun h => by simp at h, fun _ => ⟨a, ⟨#[]⟩, [], ?_⟩, e4, g, e1, fun _ => rfl, fun h => by rw [hgf] at h; simp at h⟩
        unfold impl_partOf.f
        rw [if_neg h1, e5]
        simp
    · rw [if_neg (fun e => hev e.2)] at e5
      refine ⟨false, a, ⟨#[]⟩, tk t 0 (t.size / 2), fun h => by simp at h, fun h => by simp at h, fun _ => ⟨a, ⟨#[]⟩, [], ?_⟩, e4, g, e1, fun _ => rfl, fun h => ?_⟩
      · unfold impl_partOf.f
        rw [if_neg h1, e5]
        simp
      · unfold spec_l2Text.f
        rw [hput]
        simp only [Option.bind_some]
        have hes : ((⟨#[]⟩ : ByteArray) ++ strOfNums (two (tk t 0 (t.size / 2)))).size = 2 * (t.size / 2) := by rw [ByteArray.size_append, hps, esz]; omega
        generalize (⟨#[]⟩ : ByteArray) ++ strOfNums (two (tk t 0 (t.size / 2))) = y at hes
        have hy2 : (strOfNums ([a % 256, (y.size : Int) % 256] : List Int)).size = 2 := by rw [strSize]; rfl
        rw [if_pos (by rw [hps, esz]; omega), if_pos (by omega)]
        exact ⟨_, rfl, by omega, toList_ne (by rw [ByteArray.size_append, ByteArray.size_append]; omega)⟩

-- skipbd
theorem emptyList : (⟨#[]⟩ : ByteArray).toList = ([] : List UInt8) := by
  rw [ByteArray.toList_eq]
theorem skipR_bd (s : ByteArray) (hs : s.size ≤ 200) (h : (skipR s).2.2.2 = true) : (0 ≤ (skipR s).1 ∧ (skipR s).1 ≤ 255) ∧ (0 ≤ (skipR s).2.1 ∧ (skipR s).2.1 + 2 ≤ s.size) ∧ (((skipR s).2.2.1.size : Nat) : Int) = (skipR s).2.1 := by
  have b0 := bt_range s 0
  have b1 := bt_range s 1
  unfold skipR at h ⊢
  by_cases c : (2 ≤ s.size ∧ s.size ≤ 200) ∧ bt s 1 ≤ (s.size : Int) - 2
  · rw [if_pos c]
    refine ⟨b0, ⟨b1.1, by simp only; omega⟩, ?_⟩
    simp only [ByteArray.size_extract]
    omega
  · rw [if_neg c] at h
    simp at h

-- tktwo
theorem two_in (l : List Int) : ∀ x ∈ two l, 0 ≤ x ∧ x ≤ 255 := by
  intro x hx
  unfold two at hx
  obtain ⟨y, _, h⟩ := List.mem_flatMap.1 hx
  simp only [List.mem_cons, List.not_mem_nil, or_false] at h
  omega
theorem tk_two : ∀ (l A : List Int), (∀ x ∈ A, 0 ≤ x ∧ x ≤ 255) → (∀ x ∈ l, 0 ≤ x ∧ x ≤ 65535) → tk (strOfNums (A ++ two l)) A.length l.length = l
  | [], A, _, _ => rfl
  | x :: l, A, hA, hl => by
    have hx := hl x List.mem_cons_self
    have e : two (x :: l) = [x / 256 % 256, x % 256] ++ two l := by simp [two]
    have hA2 : ∀ y ∈ A ++ [x / 256 % 256, x % 256], 0 ≤ y ∧ y ≤ 255 := by
      intro y hy
      rcases List.mem_append.1 hy with h | h
      · exact hA y h
      · simp only [List.mem_cons, List.not_mem_nil, or_false] at h
        omega
    have hall : ∀ y ∈ A ++ two (x :: l), 0 ≤ y ∧ y ≤ 255 := by
      intro y hy
      rcases List.mem_append.1 hy with h | h
      · exact hA y h
      · exact two_in _ y h
    have hs : (strOfNums (A ++ two (x :: l))).size = A.length + 2 + (two l).length := by
      rw [strSize, e, List.length_append, List.length_append]
      simp
      omega
    have hb := bytes_str _ hall
    have h2 := tk_two l (A ++ [x / 256 % 256, x % 256]) hA2 (fun y hy => hl y (List.mem_cons_of_mem _ hy))
    rw [List.append_assoc, ← e, List.length_append] at h2
    generalize strOfNums (A ++ two (x :: l)) = S at hs hb h2 ⊢
    have g0 := bt_get S A.length (by omega)
    have g1 := bt_get S (A.length + 1) (by omega)
    rw [hb, e, List.getElem?_append_right (Nat.le_refl _), Nat.sub_self] at g0
    rw [hb, e, List.getElem?_append_right (by omega), Nat.add_sub_cancel_left] at g1
    have b0 : bt S (A.length : Nat) = x / 256 % 256 := by simpa using g0.symm
    have b1 : bt S (A.length + 1 : Nat) = x % 256 := by simpa using g1.symm
    rw [List.length_cons, tk, b0, b1, show x / 256 % 256 * 256 + x % 256 = x by omega]
    congr 1

-- puts(impl_numText)
theorem impl_numText_l (l : List Int) (hn : l.length ≤ 1000000) (d : Nat) : ∀ (k i : Nat), i + d = l.length → d < k →
    impl_numText.l0 k (two (l.take i)) l l.length i = some (strOfNums (two l)) := by
  induction d with
  | zero =>
    intro k i h hk
    obtain ⟨k, rfl⟩ : ∃ m, k = m + 1 := ⟨k - 1, by omega⟩
    simp only [impl_numText.l0]
    rw [if_neg (by omega), List.take_of_length_le (by omega)]
  | succ d ih =>
    intro k i h hk
    obtain ⟨k, rfl⟩ : ∃ m, k = m + 1 := ⟨k - 1, by omega⟩
    have h1 := ih k (i + 1) (by omega) (by omega)
    have ea : l.take (i + 1) = l.take i ++ [rd l i] := by
      unfold rd
      rw [Int.toNat_natCast, List.getD_eq_getElem?_getD, List.getElem?_eq_getElem (by omega)]
      exact List.take_succ_eq_append_getElem (by omega)
    have hl := two_len (l.take i)
    have hl2 : (l.take i).length ≤ l.length := by rw [List.length_take]; omega
    simp only [impl_numText.l0]
    rw [if_pos (by omega), if_pos (by omega), if_pos (by omega)]
    simp only [Option.bind_some, List.length_cons, List.length_nil]
    rw [if_pos (by omega), ← two_snoc, ← ea, w64 (by omega) (by omega), show ((i : Int) + 1) = ((i + 1 : Nat) : Int) by omega]
    exact h1
theorem impl_numText_eq (l : List Int) (k : Nat) (hn : l.length ≤ 1000000) (hk : l.length < k) : impl_numText.f k l = some (strOfNums (two l)) := by
  have h := impl_numText_l l hn l.length k 0 (by omega) hk
  unfold impl_numText.f
  simpa [two] using h

-- texti
/-- The text of a part. -/
def textI (a : Int) (s : ByteArray) (c : List Int) : ByteArray := strOfNums [a % 256, ((s ++ strOfNums (two c)).size : Int) % 256] ++ (s ++ strOfNums (two c))
theorem text_is (a : Int) (s : ByteArray) (c : List Int) (k : Nat) (hs : s.size ≤ 20) (hc : c.length ≤ 20) (hk : 20 < k) : spec_l2Text.f k a s c = some (textI a s c) ∧ impl_partText.f k a s c = some (textI a s c) := by
  have h2 : (strOfNums (two c)).size = 2 * c.length := by rw [strSize, two_len]
  have h3 : (s ++ strOfNums (two c)).size = s.size + 2 * c.length := by rw [ByteArray.size_append, h2]
  have h4 : (strOfNums [a % 256, ((s ++ strOfNums (two c)).size : Int) % 256]).size = 2 := by rw [strSize]; rfl
  have c1 : s.size + (strOfNums (two c)).size ≤ 9223372036854775807 := by omega
  have c2 : (strOfNums [a % 256, ((s ++ strOfNums (two c)).size : Int) % 256]).size + (s ++ strOfNums (two c)).size ≤ 9223372036854775807 := by omega
  unfold spec_l2Text.f impl_partText.f textI
  rw [spec_l2Put_eq c k (by omega) (by omega), impl_numText_eq c k (by omega) (by omega)]
  simp only [Option.bind_some, if_pos c1, if_pos c2]
  exact ⟨trivial, trivial⟩
theorem text_size (a : Int) (s : ByteArray) (c : List Int) : (textI a s c).size = 2 + s.size + 2 * c.length := by
  have h2 : (strOfNums (two c)).size = 2 * c.length := by rw [strSize, two_len]
  unfold textI
  rw [ByteArray.size_append, strSize, ByteArray.size_append, h2]
  simp
  omega
theorem text_bytes (a : Int) (s : ByteArray) (c : List Int) : bytesOf (textI a s c) = [a % 256, ((s.size + 2 * c.length : Nat) : Int) % 256] ++ (bytesOf s ++ two c) := by
  have h2 : (strOfNums (two c)).size = 2 * c.length := by rw [strSize, two_len]
  have h3 : (s ++ strOfNums (two c)).size = s.size + 2 * c.length := by rw [ByteArray.size_append, h2]
  have e : s ++ strOfNums (two c) = strOfNums (bytesOf s ++ two c) := by
    conv => lhs; rw [← str_bytes s]
    rw [str_app]
  unfold textI
  rw [h3, e, str_app, bytes_str]
  intro x hx
  rcases List.mem_append.1 hx with h | h
  · simp only [List.mem_cons, List.not_mem_nil, or_false] at h
    omega
  · rcases List.mem_append.1 h with h | h
    · exact bytes_in s x h
    · exact two_in c x h

-- rdt(38)
theorem rd_T38_at (l : List S38) (i : Nat) (h : i < l.length) : rd_T38 l i = l[i] := by
  simp [rd_T38, List.getD_eq_getElem?_getD, List.getElem?_eq_getElem h]

-- samep
theorem sameI_l (a : List Int) (hn : a.length ≤ 4611686018427387904) (d : Nat) : ∀ (k i : Nat), i + d = a.length → d < k → laws_sameInts.l0 k a a a.length i = some true := by
  induction d with
  | zero =>
    intro k i h hk
    obtain ⟨k, rfl⟩ : ∃ m, k = m + 1 := ⟨k - 1, by omega⟩
    rw [laws_sameInts.l0, if_neg (by omega)]
  | succ d ih =>
    intro k i h hk
    obtain ⟨k, rfl⟩ : ∃ m, k = m + 1 := ⟨k - 1, by omega⟩
    rw [laws_sameInts.l0, if_pos (by omega), if_pos (by omega), if_pos (by omega), if_pos (by omega), if_pos rfl, w64 (by omega) (by omega), show ((i : Int) + 1) = ((i + 1 : Nat) : Int) by omega]
    exact ih k (i + 1) (by omega) (by omega)
theorem sameI (a : List Int) (k : Nat) (hn : a.length ≤ 4611686018427387904) (hk : a.length < k) : laws_sameInts.f k a a = some true := by
  unfold laws_sameInts.f
  rw [if_pos rfl]
  exact sameI_l a hn a.length k 0 (by omega) hk
theorem sameP_l (a : List S38) (hn : a.length ≤ 1000000) (hb : ∀ x ∈ a, x.f2.length ≤ 100) (d : Nat) : ∀ (k i : Nat), i + d = a.length → d + 110 < k → laws_sameParts.l0 k a a a.length i = some true := by
  induction d with
  | zero =>
    intro k i h hk
    obtain ⟨k, rfl⟩ : ∃ m, k = m + 1 := ⟨k - 1, by omega⟩
    rw [laws_sameParts.l0, if_neg (by omega)]
  | succ d ih =>
    intro k i h hk
    obtain ⟨k, rfl⟩ : ∃ m, k = m + 1 := ⟨k - 1, by omega⟩
    have hx : (rd_T38 a i).f2.length ≤ 100 := by rw [rd_T38_at a i (by omega)]; exact hb _ (List.getElem_mem _)
    rw [laws_sameParts.l0, if_pos (by omega), if_pos (by omega), if_pos (by omega), if_pos (by omega), if_pos rfl, if_pos rfl, sameI _ _ (by omega) (by omega), w64 (by omega) (by omega), show ((i : Int) + 1) = ((i + 1 : Nat) : Int) by omega, Option.bind_some, if_pos rfl]
    exact ih k (i + 1) (by omega) (by omega)
theorem sameP (a : List S38) (k : Nat) (hn : a.length ≤ 1000000) (hb : ∀ x ∈ a, x.f2.length ≤ 100) (hk : a.length + 110 < k) : laws_sameParts.f k a a = some true := by
  unfold laws_sameParts.f
  rw [if_pos rfl]
  exact sameP_l a hn hb a.length k 0 (by omega) hk

-- dropi
theorem drop_i (l : List Int) (i : Nat) (h : i < l.length) : l.drop i = rd l i :: l.drop (i + 1) := by
  unfold rd
  rw [Int.toNat_natCast, List.getD_eq_getElem?_getD, List.getElem?_eq_getElem h]
  exact List.drop_eq_getElem_cons h
theorem rd_mem (l : List Int) (i : Nat) (h : i < l.length) : rd l i ∈ l := by
  unfold rd
  rw [Int.toNat_natCast, List.getD_eq_getElem?_getD, List.getElem?_eq_getElem h]
  exact List.getElem_mem h

-- draws
theorem wraps_u64 (n : Int) (h₀ : 0 ≤ n) (h₁ : n < 2 ^ 24) : IntKind.u64.wrap n = n := by
  have h : n < 16777216 := h₁
  rw [IntKind.wrap_u64]
  omega
theorem letterOf (y : Int) : 0 ≤ wrap64 (Go.bits .and .u64 (IntKind.u64.wrap y / 1099511627776) 255) ∧ wrap64 (Go.bits .and .u64 (IntKind.u64.wrap y / 1099511627776) 255) ≤ 255 := by
  have hw := IntKind.wrap_u64 y
  have e : Go.bits .and .u64 (IntKind.u64.wrap y / 1099511627776) 255 = (IntKind.u64.wrap y / 1099511627776) % 256 :=
    bits_mask .u64 24 (by decide) wraps_u64 8 (by decide) _ (by omega) (by show _ < (16777216 : Int); omega)
  rw [e, w64 (by omega) (by omega)]
  omega
/-- The bytes that a drawer reads. -/
def Drawn (l : List Int) : Prop := (∀ x ∈ l, 0 ≤ x ∧ x ≤ 255) ∧ l.length ≤ 1125899906842624
theorem draw_next (l : List Int) (hl : Drawn l) (p st : Int) (h0 : 0 ≤ p) (h1 : p ≤ 1125899906842624) : ∃ v q, spec_l1Cur_next.f l p st = some (v, p + 1, q) ∧ 0 ≤ v ∧ v ≤ 255 := by
  obtain ⟨hl, hn⟩ := hl
  unfold spec_l1Cur_next.f
  rw [w64 (x := p + 1) (by omega) (by omega)]
  by_cases h : p < (l.length : Int)
  · have hm := hl _ (rd_mem l p.toNat (by omega))
    rw [Int.toNat_of_nonneg h0] at hm
    rw [if_pos h, if_pos h0, if_pos (by omega), w64 (x := rd l p) (by omega) (by omega)]
    exact ⟨_, _, rfl, hm⟩
  · rw [if_neg h, if_neg (by omega)]
    exact ⟨_, _, rfl, letterOf _⟩
theorem draw_pick (l : List Int) (hl : Drawn l) (p st n : Int) (h0 : 0 ≤ p) (h1 : p ≤ 1000000000000) (hn : 1 ≤ n) : ∃ v p' q, spec_l1Cur_pick.f l p st n = some (v, p', q) ∧ (0 ≤ v ∧ v < n) ∧ p ≤ p' ∧ p' ≤ p + 2 := by
  unfold spec_l1Cur_pick.f
  by_cases h : n ≤ 1
  · rw [if_pos h]
    exact ⟨_, _, _, rfl, by omega, by omega, by omega⟩
  · obtain ⟨a, q, e, ha⟩ := draw_next l hl p st h0 (by omega)
    rw [if_neg h, e]
    simp only [Option.bind_some]
    by_cases h2 : n > 200
    · obtain ⟨b, q2, e2, hb⟩ := draw_next l hl (p + 1) q (by omega) (by omega)
      rw [if_pos h2, e2]
      simp only [Option.bind_some]
      rw [if_neg (by omega), w64 (x := a * 256) (by omega) (by omega), w64 (by omega) (by omega), tm (by omega)]
      exact ⟨_, _, _, rfl, ⟨Int.emod_nonneg _ (by omega), Int.emod_lt_of_pos _ (by omega)⟩, by omega, by omega⟩
    · rw [if_neg h2, if_neg (by omega), tm (by omega)]
      exact ⟨_, _, _, rfl, ⟨Int.emod_nonneg _ (by omega), Int.emod_lt_of_pos _ (by omega)⟩, by omega, by omega⟩
theorem draw_among (l : List Int) (hl : Drawn l) (p st : Int) (m : List Int) (h0 : 0 ≤ p) (h1 : p ≤ 1000000000000) (hm : 1 ≤ m.length) : ∃ v p' q, spec_l1Cur_among.f l p st m = some (v, p', q) ∧ v ∈ m ∧ p ≤ p' ∧ p' ≤ p + 2 := by
  obtain ⟨v, p', q, e, hv, hp⟩ := draw_pick l hl p st (m.length : Int) h0 h1 (by omega)
  unfold spec_l1Cur_among.f
  rw [e]
  simp only [Option.bind_some]
  rw [if_pos hv.1, if_pos hv.2]
  refine ⟨_, _, _, rfl, ?_, hp⟩
  have := rd_mem m v.toNat (by omega)
  rwa [Int.toNat_of_nonneg hv.1] at this

-- drawone
theorem draw_one (l : List Int) (hl : Drawn l) (p st n : Int) (h0 : 0 ≤ p) (h1 : p ≤ 1000000000000) (hn : 1 ≤ n) : ∃ b p' q, spec_l1Cur_one.f l p st n = some (b, p', q) ∧ p ≤ p' ∧ p' ≤ p + 2 := by
  obtain ⟨v, p', q, e, _, hp⟩ := draw_pick l hl p st n h0 h1 hn
  unfold spec_l1Cur_one.f
  rw [e]
  exact ⟨_, _, _, rfl, hp⟩

-- upfrom
/-- n, n + 1, .., in so many places. -/
def upFrom (m : Int) (n : Nat) : List Int := (List.range n).map fun i : Nat => m + i
theorem upFrom_len (m : Int) (n : Nat) : (upFrom m n).length = n := by simp [upFrom]
theorem rd_nat (l : List Int) (i : Nat) : rd l i = l.getD i 0 := by simp [rd]
theorem rd_upFrom (m : Int) (n i : Nat) (h : i < n) : rd (upFrom m n) i = m + i := by
  simp [rd, upFrom, h]

-- putany
theorem put_any : ∀ (l a : List Int) (n : Int) (k : Nat), (a ++ l).length ≤ 1000000 → l.length < k → ∃ r, spec_l1Put.l0 k (a ++ l) n a.length = some r ∧ r.length ≤ (a ++ l).length + 1 ∧ ∀ y ∈ r, y ∈ a ++ l ∨ y = n
  | [], a, n, k, hl, hk => by
    obtain ⟨k, rfl⟩ : ∃ m, k = m + 1 := ⟨k - 1, by omega⟩
    rw [List.append_nil] at hl ⊢
    refine ⟨a ++ [n], ?_, by rw [List.length_append, List.length_singleton]; omega, fun y hy => ?_⟩
    · simp only [spec_l1Put.l0]
      rw [if_neg (by omega)]
      simp only [Option.bind_some, List.nil_append, List.length_nil]
      rw [if_pos (by omega), if_pos (by omega), Int.toNat_natCast, List.take_length, List.drop_length]
      rw [if_pos (by omega), if_pos (by omega)]
      rw [if_pos (by rw [List.length_append, List.length_singleton, List.length_nil]; omega)]
      simp
    · rcases List.mem_append.1 hy with h | h
      · exact .inl h
      · exact .inr (List.mem_singleton.1 h)
  | x :: l, a, n, k, hl, hk => by
    obtain ⟨k, rfl⟩ : ∃ m, k = m + 1 := ⟨k - 1, by omega⟩
    have hl2 := hl
    rw [List.length_append, List.length_cons] at hl2
    rw [List.length_cons] at hk
    have hr : rd (a ++ x :: l) (a.length : Int) = x := by simp [rd]
    rw [spec_l1Put.l0, if_pos (by rw [List.length_append, List.length_cons]; omega), if_pos (by omega), hr]
    by_cases h : x < n
    · obtain ⟨r, e, hs⟩ := put_any l (a ++ [x]) n k (by rw [List.append_assoc, List.singleton_append]; exact hl) (by omega)
      rw [List.append_assoc, List.singleton_append, List.length_append, List.length_singleton] at e
      rw [List.append_assoc, List.singleton_append] at hs
      rw [if_pos h, w64 (by omega) (by omega), show (a.length : Int) + 1 = ((a.length + 1 : Nat) : Int) by omega]
      exact ⟨r, e, hs⟩
    · rw [if_neg h]
      by_cases e : x = n
      · rw [if_pos e]
        exact ⟨_, rfl, by omega, fun y hy => .inl hy⟩
      · rw [if_neg e]
        refine ⟨a ++ n :: x :: l, ?_, by simp only [List.length_append, List.length_cons]; omega, fun y hy => ?_⟩
        · simp only [Option.bind_some, List.nil_append, List.length_nil]
          rw [if_pos (by rw [List.length_append, List.length_cons]; omega), Int.toNat_natCast, List.take_left, List.drop_left]
          rw [if_pos (by omega), if_pos (by omega), if_pos (by rw [List.length_append, List.length_singleton, List.length_cons]; omega)]
          simp
        · rcases List.mem_append.1 hy with h | h
          · exact .inl (List.mem_append.2 (.inl h))
          · rcases List.mem_cons.1 h with h | h
            · exact .inr h
            · exact .inl (List.mem_append.2 (.inr h))
theorem put_some (l : List Int) (n : Int) (k : Nat) (hl : l.length ≤ 1000000) (hk : l.length < k) : ∃ r, spec_l1Put.f k l n = some r ∧ r.length ≤ l.length + 1 ∧ ∀ y ∈ r, y ∈ l ∨ y = n := put_any l [] n k hl hk

-- drawparts
theorem draw_nums_l (l : List Int) (hl : Drawn l) (d : Nat) : ∀ (x : List Int) (p st : Int), x.length + d ≤ 6 → (∀ y ∈ x, 0 ≤ y ∧ y ≤ 65535) → 0 ≤ p → p + 4 * d ≤ 100000 →
    ∃ r p' q, (∀ k, d + 20 < k → spec_l1Cur_nums.l0 k x d l p st = some (r, p', q)) ∧ r.length ≤ 6 ∧ (∀ y ∈ r, 0 ≤ y ∧ y ≤ 65535) ∧ p ≤ p' ∧ p' ≤ p + 4 * d := by
  induction d with
  | zero =>
    intro x p st hx hm h0 h1
    refine ⟨x, p, st, fun k hk => ?_, by omega, hm, by omega, by omega⟩
    obtain ⟨k, rfl⟩ : ∃ m, k = m + 1 := ⟨k - 1, by omega⟩
    rw [spec_l1Cur_nums.l0, if_neg (by omega)]
  | succ d ih =>
    intro x p st hx hm h0 h1
    obtain ⟨u, p1, q1, e1, hu, hp1⟩ := draw_pick l hl p st 256 h0 (by omega) (by omega)
    have hu7 : wrap64 (u * 7) = u * 7 := w64 (by omega) (by omega)
    obtain ⟨v, p2, q2, e2, hv, hp2⟩ := draw_among l hl p1 q1 [0, 1, 255, 256, 65535, u * 7] (by omega) (by omega) (by simp)
    have hv2 : 0 ≤ v ∧ v ≤ 65535 := by
      simp only [List.mem_cons, List.not_mem_nil, or_false] at hv
      omega
    obtain ⟨y, ey, hy1, hy2⟩ := put_some x v 20 (by omega) (by omega)
    have ey2 : ∀ k, 20 < k → spec_l1Put.f k x v = some y := fun k hk => by
      obtain ⟨y', e', _⟩ := put_some x v k (by omega) (by omega)
      obtain ⟨m, rfl⟩ : ∃ m, k = 20 + m := ⟨k - 20, by omega⟩
      have : ∀ m, spec_l1Put.f (20 + m) x v = some y := fun m => by
        induction m with
        | zero => exact ey
        | succ m ihm => exact spec_l1Put.mono x v (20 + m) y ihm
      exact this m
    obtain ⟨r, p3, q3, e3, hr, hr2, hp3⟩ := ih y p2 q2 (by omega) (fun z hz => by
      rcases hy2 z hz with h | h
      · exact hm z h
      · rw [h]; exact hv2) (by omega) (by omega)
    refine ⟨r, p3, q3, fun k hk => ?_, hr, hr2, by omega, by omega⟩
    obtain ⟨k, rfl⟩ : ∃ m, k = m + 1 := ⟨k - 1, by omega⟩
    rw [spec_l1Cur_nums.l0, if_pos (by omega), e1]
    simp only [Option.bind_some]
    rw [hu7, e2]
    simp only [Option.bind_some]
    rw [ey2 k (by omega)]
    simp only [Option.bind_some]
    rw [w64 (x := ((d + 1 : Nat) : Int) - 1) (by omega) (by omega), show ((d + 1 : Nat) : Int) - 1 = (d : Int) by omega]
    exact e3 k (by omega)
theorem draw_nums (l : List Int) (hl : Drawn l) (p st : Int) (h0 : 0 ≤ p) (h1 : p ≤ 50000) : ∃ r p' q, (∀ k, 30 < k → spec_l1Cur_nums.f k l p st 6 = some (r, p', q)) ∧ r.length ≤ 6 ∧ (∀ y ∈ r, 0 ≤ y ∧ y ≤ 65535) ∧ p ≤ p' ∧ p' ≤ p + 30 := by
  obtain ⟨n, p1, q1, e1, hn, hp1⟩ := draw_pick l hl p st 7 h0 (by omega) (by omega)
  obtain ⟨r, p2, q2, e2, hr, hr2, hp2⟩ := draw_nums_l l hl n.toNat [] p1 q1 (by simp; omega) (fun y hy => absurd hy List.not_mem_nil) (by omega) (by omega)
  refine ⟨r, p2, q2, fun k hk => ?_, hr, hr2, by omega, by omega⟩
  have hc : (n.toNat : Int) = n := Int.toNat_of_nonneg hn.1
  rw [hc] at e2
  have h7 : wrap64 (6 + 1) = 7 := w64 (by omega) (by omega)
  unfold spec_l1Cur_nums.f
  rw [h7, e1]
  exact e2 k (by omega)
theorem draw_ofm (l : List Int) (hl : Drawn l) (p st : Int) (m : List ByteArray) (h0 : 0 ≤ p) (h1 : p ≤ 1000000000000) (hm : 1 ≤ m.length) : ∃ v p' q, spec_l1Cur_of.f l p st m = some (v, p', q) ∧ v ∈ m ∧ p ≤ p' ∧ p' ≤ p + 2 := by
  obtain ⟨v, p', q, e, hv, hp⟩ := draw_pick l hl p st (m.length : Int) h0 h1 (by omega)
  have hi : v.toNat < m.length := by omega
  refine ⟨rdOf ByteArray.empty m v, p', q, ?_, ?_, hp⟩
  · unfold spec_l1Cur_of.f
    rw [e]
    simp only [Option.bind_some]
    rw [if_pos hv.1, if_pos hv.2]
  · unfold rdOf
    rw [List.getD_eq_getElem?_getD, List.getElem?_eq_getElem hi]
    exact List.getElem_mem hi
/-- What a drawn part may be. -/
def PartIn (a : Int) (t : ByteArray) (c : List Int) : Prop := (0 ≤ a ∧ a ≤ 6) ∧ t.size ≤ 20 ∧ c.length ≤ 7
theorem draw_part0 (l : List Int) (hl : Drawn l) (p st a : Int) (t : ByteArray) (c : List Int) (h0 : 0 ≤ p) (h1 : p ≤ 90000) (h : PartIn a t c) (hc : c.length ≤ 6) : ∃ a' t' c' p' q, (∀ k, spec_l1Cur_part.j0 (k + 1) l p st a t c = some (a', t', c', p', q)) ∧ PartIn a' t' c' ∧ p ≤ p' ∧ p' ≤ p + 4 := by
  obtain ⟨o, p1, q1, e1, ho, hp1⟩ := draw_pick l hl p st 40 h0 (by omega) (by omega)
  by_cases o0 : o = 0
  · obtain ⟨u, p2, q2, e2, hu, hp2⟩ := draw_pick l hl p1 q1 7 (by omega) (by omega) (by omega)
    refine ⟨u, t, c, p2, q2, fun k => ?_, ⟨by omega, h.2⟩, by omega, by omega⟩
    rw [spec_l1Cur_part.j0, e1]
    simp only [Option.bind_some]
    rw [if_pos o0, e2]
    rfl
  · by_cases o1 : o = 1
    · obtain ⟨u, p2, q2, e2, hu, hp2⟩ := draw_ofm l hl p1 q1 [(⟨#[]⟩ : ByteArray), (⟨#[65]⟩ : ByteArray), (⟨#[120]⟩ : ByteArray)] (by omega) (by omega) (by simp)
      have hs : u.size ≤ 20 := by
        simp only [List.mem_cons, List.not_mem_nil, or_false] at hu
        rcases hu with rfl | rfl | rfl <;> decide
      refine ⟨a, u, c, p2, q2, fun k => ?_, ⟨h.1, hs, h.2.2⟩, by omega, by omega⟩
      rw [spec_l1Cur_part.j0, e1]
      simp only [Option.bind_some]
      rw [if_neg o0, if_pos o1, e2]
      rfl
    · by_cases o2 : o = 2
      · obtain ⟨u, p2, q2, e2, hu, hp2⟩ := draw_among l hl p1 q1 [(-1), 0, 65536] (by omega) (by omega) (by simp)
        refine ⟨a, t, c ++ [u], p2, q2, fun k => ?_, ⟨h.1, h.2.1, by rw [List.length_append, List.length_singleton]; omega⟩, by omega, by omega⟩
        rw [spec_l1Cur_part.j0, e1]
        simp only [Option.bind_some]
        rw [if_neg o0, if_neg o1, if_pos o2, e2]
        simp only [Option.bind_some]
        rw [if_pos (by omega)]
      · refine ⟨a, t, c, p1, q1, fun k => ?_, h, by omega, by omega⟩
        rw [spec_l1Cur_part.j0, e1]
        simp only [Option.bind_some]
        rw [if_neg o0, if_neg o1, if_neg o2]
theorem draw_part (l : List Int) (hl : Drawn l) (p st : Int) (h0 : 0 ≤ p) (h1 : p ≤ 40000) : ∃ a t c p' q, (∀ k, 40 < k → spec_l1Cur_part.f k l p st = some (a, t, c, p', q)) ∧ PartIn a t c ∧ p ≤ p' ∧ p' ≤ p + 50 := by
  obtain ⟨o, p1, q1, e1, ho, hp1⟩ := draw_pick l hl p st 4 h0 (by omega) (by omega)
  have hw : wrap64 (1 + o) = 1 + o := w64 (by omega) (by omega)
  have es : (⟨#[]⟩ : ByteArray).size = 0 := rfl
  by_cases o1 : 1 + o = 1
  · obtain ⟨u, p2, q2, e2, hu, hp2⟩ := draw_ofm l hl p1 q1 [(⟨#[97]⟩ : ByteArray), (⟨#[98, 114, 105, 100, 103, 101]⟩ : ByteArray), (⟨#[116, 119, 101, 110, 116, 121, 108, 101, 116, 116, 101, 114, 115, 105, 110, 97, 110, 97, 109, 101]⟩ : ByteArray), (⟨#[110, 111, 114, 116, 104]⟩ : ByteArray)] (by omega) (by omega) (by simp)
    have hs : u.size ≤ 20 := by
      simp only [List.mem_cons, List.not_mem_nil, or_false] at hu
      rcases hu with rfl | rfl | rfl | rfl <;> decide
    obtain ⟨a, t, c, p3, q3, e3, hP, hp3⟩ := draw_part0 l hl p2 q2 (1 + o) u [] (by omega) (by omega) ⟨by omega, hs, by simp⟩ (by simp)
    refine ⟨a, t, c, p3, q3, fun k hk => ?_, hP, by omega, by omega⟩
    obtain ⟨k, rfl⟩ : ∃ m, k = m + 1 := ⟨k - 1, by omega⟩
    unfold spec_l1Cur_part.f
    rw [e1]
    simp only [Option.bind_some]
    rw [hw, if_pos o1, e2]
    exact e3 k
  · by_cases o4 : 1 + o = 4
    · obtain ⟨u, p2, q2, e2, hu, hp2⟩ := draw_pick l hl p1 q1 2 (by omega) (by omega) (by omega)
      obtain ⟨a, t, c, p3, q3, e3, hP, hp3⟩ := draw_part0 l hl p2 q2 (1 + o) ⟨#[]⟩ [u] (by omega) (by omega) ⟨by omega, by omega, by simp⟩ (by simp)
      refine ⟨a, t, c, p3, q3, fun k hk => ?_, hP, by omega, by omega⟩
      obtain ⟨k, rfl⟩ : ∃ m, k = m + 1 := ⟨k - 1, by omega⟩
      unfold spec_l1Cur_part.f
      rw [e1]
      simp only [Option.bind_some]
      rw [hw, if_neg o1, if_pos o4, e2]
      exact e3 k
    · obtain ⟨u, p2, q2, e2, hu, _, hp2⟩ := draw_nums l hl p1 q1 (by omega) (by omega)
      obtain ⟨a, t, c, p3, q3, e3, hP, hp3⟩ := draw_part0 l hl p2 q2 (1 + o) ⟨#[]⟩ u (by omega) (by omega) ⟨by omega, by omega, by omega⟩ hu
      refine ⟨a, t, c, p3, q3, fun k hk => ?_, hP, by omega, by omega⟩
      obtain ⟨k, rfl⟩ : ∃ m, k = m + 1 := ⟨k - 1, by omega⟩
      unfold spec_l1Cur_part.f
      rw [e1]
      simp only [Option.bind_some]
      rw [hw, if_neg o1, if_neg o4, e2 _ (by omega)]
      exact e3 k
theorem draw_parts_l (l : List Int) (hl : Drawn l) (d : Nat) : ∀ (x : List S38) (p st : Int), x.length + d ≤ 11 → (∀ y ∈ x, PartIn y.f0 y.f1 y.f2) → 0 ≤ p → p + 60 * d ≤ 10000 →
    ∃ r p' q, (∀ k, d + 50 < k → spec_l1Cur_parts.l0 k x d l p st = some (r, p', q)) ∧ r.length ≤ 11 ∧ (∀ y ∈ r, PartIn y.f0 y.f1 y.f2) ∧ p ≤ p' ∧ p' ≤ p + 60 * d := by
  induction d with
  | zero =>
    intro x p st hx hm h0 h1
    refine ⟨x, p, st, fun k hk => ?_, by omega, hm, by omega, by omega⟩
    obtain ⟨k, rfl⟩ : ∃ m, k = m + 1 := ⟨k - 1, by omega⟩
    rw [spec_l1Cur_parts.l0, if_neg (by omega)]
  | succ d ih =>
    intro x p st hx hm h0 h1
    obtain ⟨a, t, c, p1, q1, e1, hP, hp1⟩ := draw_part l hl p st h0 (by omega)
    obtain ⟨r, p2, q2, e2, hr, hr2, hp2⟩ := ih (x ++ [⟨a, t, c⟩]) p1 q1 (by rw [List.length_append, List.length_singleton]; omega) (fun y hy => by
      rcases List.mem_append.1 hy with h | h
      · exact hm y h
      · rw [List.mem_singleton.1 h]; exact hP) (by omega) (by omega)
    refine ⟨r, p2, q2, fun k hk => ?_, hr, hr2, by omega, by omega⟩
    obtain ⟨k, rfl⟩ : ∃ m, k = m + 1 := ⟨k - 1, by omega⟩
    rw [spec_l1Cur_parts.l0, if_pos (by omega), e1 _ (by omega)]
    simp only [Option.bind_some]
    rw [if_pos (by omega), w64 (x := ((d + 1 : Nat) : Int) - 1) (by omega) (by omega), show ((d + 1 : Nat) : Int) - 1 = (d : Int) by omega]
    exact e2 k (by omega)
theorem draw_parts (l : List Int) (hl : Drawn l) : ∃ (r : List S38) (p' q : Int), (∀ k, 70 < k → spec_l1Cur_parts.f k l 0 0 = some (r, p', q)) ∧ r.length ≤ 11 ∧ (∀ y ∈ r, PartIn y.f0 y.f1 y.f2) ∧ 0 ≤ p' ∧ p' ≤ 1000 := by
  obtain ⟨n, p1, q1, e1, hn, hp1⟩ := draw_pick l hl 0 0 6 (by omega) (by omega) (by omega)
  obtain ⟨o, p2, q2, e2, hp2⟩ := draw_one l hl p1 q1 20 (by omega) (by omega) (by omega)
  cases o
  · obtain ⟨r, p3, q3, e3, hr, hr2, hp3⟩ := draw_parts_l l hl n.toNat [] p2 q2 (by simp; omega) (fun y hy => absurd hy List.not_mem_nil) (by omega) (by omega)
    refine ⟨r, p3, q3, fun k hk => ?_, hr, hr2, by omega, by omega⟩
    obtain ⟨k, rfl⟩ : ∃ m, k = m + 1 := ⟨k - 1, by omega⟩
    have hc : (n.toNat : Int) = n := Int.toNat_of_nonneg hn.1
    rw [hc] at e3
    unfold spec_l1Cur_parts.f
    rw [e1]
    simp only [Option.bind_some]
    rw [e2]
    simp only [Option.bind_some]
    rw [if_neg (by decide), spec_l1Cur_parts.j0]
    exact e3 k (by omega)
  · obtain ⟨b, p3, q3, e3, hb, hp3⟩ := draw_pick l hl p2 q2 2 (by omega) (by omega) (by omega)
    obtain ⟨r, p4, q4, e4, hr, hr2, hp4⟩ := draw_parts_l l hl (10 + b).toNat [] p3 q3 (by simp; omega) (fun y hy => absurd hy List.not_mem_nil) (by omega) (by omega)
    refine ⟨r, p4, q4, fun k hk => ?_, hr, hr2, by omega, by omega⟩
    obtain ⟨k, rfl⟩ : ∃ m, k = m + 1 := ⟨k - 1, by omega⟩
    have hc : ((10 + b).toNat : Int) = 10 + b := Int.toNat_of_nonneg (by omega)
    rw [hc] at e4
    have hw : wrap64 (10 + b) = 10 + b := w64 (by omega) (by omega)
    unfold spec_l1Cur_parts.f
    rw [e1]
    simp only [Option.bind_some]
    rw [e2]
    simp only [Option.bind_some]
    rw [if_pos trivial, e3]
    simp only [Option.bind_some]
    rw [hw, spec_l1Cur_parts.j0]
    exact e4 k (by omega)

-- numberof
theorem number_l (l : List Int) (hl : Drawn l) (d : Nat) : ∀ (i : Nat) (x : Int), i + d = l.length → 0 ≤ x ∧ x < 1000003 → ∃ r, (∀ k, d < k → laws_numberOf.l0 k x l l.length i = some r) ∧ 0 ≤ r ∧ r < 1000003 := by
  have hn := hl.2
  induction d with
  | zero =>
    intro i x h hx
    refine ⟨x, fun k hk => ?_, hx⟩
    obtain ⟨k, rfl⟩ : ∃ m, k = m + 1 := ⟨k - 1, by omega⟩
    simp only [laws_numberOf.l0]
    rw [if_neg (by omega)]
  | succ d ih =>
    intro i x h hx
    have hm := hl.1 _ (rd_mem l i (by omega))
    obtain ⟨r, hr, hs⟩ := ih (i + 1) ((31 * x + rd l i) % 1000003) (by omega) (by omega)
    refine ⟨r, fun k hk => ?_, hs⟩
    obtain ⟨k, rfl⟩ : ∃ m, k = m + 1 := ⟨k - 1, by omega⟩
    simp only [laws_numberOf.l0]
    rw [if_pos (by omega), if_pos (by omega), if_pos (by omega), w64 (x := (i : Int) + 1) (by omega) (by omega), show ((i : Int) + 1) = ((i + 1 : Nat) : Int) by omega,
      w64 (x := 31 * x) (by omega) (by omega), w64 (x := rd l i) (by omega) (by omega), w64 (by omega) (by omega), tm (by omega)]
    exact hr k (by omega)
theorem number_of (l : List Int) (hl : Drawn l) : ∃ r, (∀ k, l.length < k → laws_numberOf.f k l = some r) ∧ 0 ≤ r ∧ r < 1000003 := by
  unfold laws_numberOf.f
  simpa using number_l l hl l.length 0 0 (by omega) (by omega)

-- readboth
theorem ext_ext (s : ByteArray) (i n : Nat) (h : i + n ≤ s.size) : (s.extract i s.size).extract n (s.extract i s.size).size = s.extract (i + n) s.size := by
  rw [ByteArray.extract_extract, ByteArray.size_extract]
  congr 1
  omega
theorem in14 (p0 : Int) : spec_l1In.f p0 1 4 = some (decide (1 ≤ p0 ∧ p0 ≤ 4)) := by
  unfold spec_l1In.f
  by_cases h1 : p0 ≥ 1
  · rw [if_pos h1]
    simp [show 1 ≤ p0 from h1]
  · rw [if_neg h1]
    simp [show ¬ 1 ≤ p0 from h1]
theorem in14' (p0 : Int) : impl_in.f p0 1 4 = some (decide (1 ≤ p0 ∧ p0 ≤ 4)) := in14 p0
theorem w_two (n i z : Nat) (h : i + (2 + n) ≤ z) (hz : z ≤ 200) : wrap64 (2 + (n : Int)) = 2 + (n : Int) ∧ wrap64 ((i : Int) + (2 + (n : Int))) = ((i + (2 + n) : Nat) : Int) := by
  constructor
  · exact w64 (by omega) (by omega)
  · rw [w64 (by omega) (by omega)]
    omega
set_option maxHeartbeats 1000000 in
/-- Both read the same from a place on. -/
theorem both_read (s : ByteArray) (hs : s.size ≤ 200) (d : Nat) : ∀ (i : Nat) (out : List S38) (left : Int) (k : Nat), i ≤ s.size → s.size - i ≤ d → out.length ≤ 10 → (∀ x ∈ out, x.f2.length ≤ 20) → 0 ≤ left → left + d ≤ 1000 → d + d + 700 < k →
    ∃ r : List S38 × Int × Int × Bool, spec_ReadFrame.l0 k s out left i = some r ∧ impl_ReadFrame.l0 k (s.extract i s.size) out left = some r ∧ r.1.length ≤ 10 ∧ ∀ x ∈ r.1, x.f2.length ≤ 20 := by
  induction d with
  | zero =>
    intro i out left k hi hd ho hx h0 hl hk
    obtain ⟨k, rfl⟩ : ∃ m, k = m + 1 := ⟨k - 1, by omega⟩
    have e : s.extract i s.size = ⟨#[]⟩ := size_zero (by rw [ByteArray.size_extract]; omega)
    simp only [spec_ReadFrame.l0, impl_ReadFrame.l0]
    rw [if_neg (by omega), e, if_pos emptyList]
    exact ⟨_, rfl, rfl, ho, hx⟩
  | succ d ih =>
    intro i out left k hi hd ho hx h0 hl hk
    obtain ⟨k, rfl⟩ : ∃ m, k = m + 2 := ⟨k - 2, by omega⟩
    by_cases hlt : i < s.size
    · have hes : (s.extract i s.size).size = s.size - i := by rw [ByteArray.size_extract]; omega
      have hne : ¬ (s.extract i s.size).toList = ([] : List UInt8) := by
        intro e
        have := noBytes e
        omega
      rw [spec_ReadFrame.l0, impl_ReadFrame.l0, if_pos (by omega), if_pos (by omega), if_pos (by omega), if_neg hne, Int.toNat_natCast, spec_skip _ (by omega), impl_skip _ (by omega)]
      have hsk := skipR_bd (s.extract i s.size) (by omega)
      have hee := ext_ext s i
      generalize s.extract i s.size = u at hes hne hsk hee ⊢
      generalize skipR u = p at hsk ⊢
      obtain ⟨p0, p1, p2, p3⟩ := p
      simp only [Option.bind_some]
      cases p3 with
      | false =>
        rw [if_neg (by simp), if_neg (by simp)]
        exact ⟨_, rfl, rfl, by simp, fun x hx => by simp at hx⟩
      | true =>
        obtain ⟨ha, hb, hc⟩ := hsk rfl
        simp only at ha hb hc
        obtain ⟨n, rfl⟩ := Int.eq_ofNat_of_zero_le hb.1
        have hin : i + (2 + n) ≤ s.size := by omega
        have hcut : u.extract (2 + (n : Int)).toNat u.size = s.extract (i + (2 + n)) s.size := by
          rw [show (2 + (n : Int)).toNat = 2 + n by omega]
          exact hee (2 + n) hin
        have f1 : (0 : Int) ≤ 2 + (n : Int) := by omega
        have f2 : 2 + (n : Int) ≤ (u.size : Int) := by omega
        obtain ⟨w1, w2⟩ := w_two n i s.size hin hs
        have ein := in14 p0
        have ein2 := in14' p0
        simp only [if_true, Option.bind_some]
        rw [w1, if_pos f1, if_pos f2, ein, ein2, hcut, w2]
        clear w1 w2
        simp only [Option.bind_some]
        by_cases hk4 : 1 ≤ p0 ∧ p0 ≤ 4
        · rw [decide_eq_true hk4]
          simp only [if_true]
          obtain ⟨b, q0, q1, q2, hbd, hbt, hbf, hsp, g, hg, hgf, hgt⟩ := both_of p0 p2 (k + 1) ha (by omega) (by omega)
          rw [hsp]
          simp only [Option.bind_some]
          rw [hg]
          simp only [Option.bind_some]
          have hj : ∀ (bb : Bool), bb = !b → ∃ r : List S38 × Int × Int × Bool, spec_ReadFrame.j1 (k + 1) s out left ((i + (2 + n) : Nat) : Int) bb q0 q1 q2 = some r ∧ ((impl_partOf.f (k + 1) p0 p2).bind fun bt192 => (if bt192.2.2.2 = true then (if (out.length : Int) = 10 then (some (([] : List (S38)), 0, 3, false)) else (if out.length < 2932031007402 then (impl_ReadFrame.l0 (k + 1) (s.extract (i + (2 + n)) s.size) (out ++ [(⟨bt192.1, bt192.2.1, bt192.2.2.1⟩ : S38)]) left) else (none))) else (some (([] : List (S38)), 0, 2, false)))) = some r ∧ r.1.length ≤ 10 ∧ ∀ x ∈ r.1, x.f2.length ≤ 20 := by
            intro bb hbb
            simp only [spec_ReadFrame.j1]
            cases b with
            | false =>
              obtain ⟨z0, z1, z2, hz⟩ := hbf rfl
              rw [hz, hbb]
              simp only [Option.bind_some, Bool.not_false, if_true]
              rw [if_neg (by simp)]
              exact ⟨_, rfl, rfl, by simp, fun x hx => by simp at hx⟩
            | true =>
              rw [hbt rfl, hbb]
              simp only [Option.bind_some, Bool.not_true, if_true]
              rw [if_neg (by simp)]
              by_cases h10 : (out.length : Int) = 10
              · rw [if_pos h10, if_pos h10]
                exact ⟨_, rfl, rfl, by simp, fun x hx => by simp at hx⟩
              · rw [if_neg h10, if_neg h10, if_pos (by omega), if_pos (by omega)]
                obtain ⟨r, e1, _, hr⟩ := ih (i + (2 + n)) (out ++ [⟨q0, q1, q2⟩]) left k hin (by omega) (by rw [List.length_append, List.length_singleton]; omega) (fun x hx2 => by
                  rcases List.mem_append.1 hx2 with hx2 | hx2
                  · exact hx x hx2
                  · rw [List.mem_singleton] at hx2
                    subst hx2
                    exact (hbd rfl).2) h0 (by omega) (by omega)
                obtain ⟨r2, e3, e4, _⟩ := ih (i + (2 + n)) (out ++ [⟨q0, q1, q2⟩]) left (k + 1) hin (by omega) (by rw [List.length_append, List.length_singleton]; omega) (fun x hx2 => by
                  rcases List.mem_append.1 hx2 with hx2 | hx2
                  · exact hx x hx2
                  · rw [List.mem_singleton] at hx2
                    subst hx2
                    exact (hbd rfl).2) h0 (by omega) (by omega)
                have em := spec_ReadFrame.mono_l k
                have er : r2 = r := by
                  have h2 := em.1 _ _ _ _ _ e1
                  rw [e3] at h2
                  exact Option.some.inj h2
                rw [er] at e4
                exact ⟨r, e1, e4, hr⟩
          cases g with
          | false =>
            rw [if_neg (by simp)]
            exact hj true (by rw [hgf rfl]; rfl)
          | true =>
            obtain ⟨z, hz, hzs, hzb⟩ := hgt rfl
            rw [if_pos rfl, hz]
            simp only [Option.bind_some]
            rw [hc] at hzs hzb
            have hnn : ((n : Nat) : Int) = (n : Int) := rfl
            rw [if_pos (by first | exact hzs | (rw [← hc] at hzs; exact hzs))]
            exact hj _ hzb
        · rw [decide_eq_false hk4]
          simp only [Bool.false_eq_true, if_false]
          rw [w64 (x := left + 1) (by omega) (by omega)]
          exact ih (i + (2 + n)) out (left + 1) (k + 1) hin (by omega) ho hx (by omega) (by omega) (by omega)
    · have e : s.extract i s.size = ⟨#[]⟩ := size_zero (by rw [ByteArray.size_extract]; omega)
      obtain ⟨k, rfl⟩ : ∃ m, k = m + 1 := ⟨k - 1, by omega⟩
      simp only [spec_ReadFrame.l0, impl_ReadFrame.l0]
      rw [if_neg (by omega), e, if_pos emptyList]
      exact ⟨_, rfl, rfl, ho, hx⟩

/-- Is a part good (with as many rounds as it needs). -/
def gdF (a : Int) (s : ByteArray) (c : List Int) : Bool := (impl_GoodPart.f 701 a s c).getD false
def gd (p : S38) : Bool := gdF p.f0 p.f1 p.f2
def Small (p : S38) : Prop := p.f1.size ≤ 300 ∧ p.f2.length ≤ 300
theorem good_more (a : Int) (s : ByteArray) (c : List Int) (b : Bool) (j : Nat) (h : impl_GoodPart.f j a s c = some b) : ∀ m, impl_GoodPart.f (j + m) a s c = some b
  | 0 => h
  | m + 1 => impl_GoodPart.mono a s c (j + m) b (good_more a s c b j h m)
theorem gd_both (a : Int) (s : ByteArray) (c : List Int) (k : Nat) (hs : s.size ≤ 300) (hc : c.length ≤ 300) (hk : 701 ≤ k) : spec_GoodPart.f k a s c = some (gdF a s c) ∧ impl_GoodPart.f k a s c = some (gdF a s c) := by
  obtain ⟨b, e1, e2, _⟩ := both_part a s c k (by omega) (by omega) (by omega)
  obtain ⟨b', _, e4, _⟩ := both_part a s c 701 (by omega) (by omega) (by omega)
  have e5 := good_more a s c b' 701 e4 (k - 701)
  rw [show 701 + (k - 701) = k by omega, e2] at e5
  have eb := Option.some.inj e5
  have eg : gdF a s c = b' := by
    unfold gdF
    rw [e4]
    rfl
  rw [e1, e2, eg, eb]
  exact ⟨rfl, rfl⟩
theorem name_true (a : Int) (s : ByteArray) (c : List Int) : ∀ (k : Nat) (n i : Int), impl_GoodPart.l0 k n i a s c = some true → c = []
  | 0, _, _, h => by simp [impl_GoodPart.l0] at h
  | k + 1, n, i, h => by
    rw [impl_GoodPart.l0] at h
    by_cases h1 : i < n
    · rw [if_pos h1] at h
      by_cases h2 : 0 ≤ i
      · rw [if_pos h2] at h
        by_cases h3 : i < (s.size : Int)
        · rw [if_pos h3] at h
          by_cases h4 : bt s i < 97
          · rw [if_pos h4] at h
            exact absurd h (by simp)
          · rw [if_neg h4] at h
            by_cases h5 : bt s i > 122
            · rw [if_pos h5] at h
              exact absurd h (by simp)
            · rw [if_neg h5] at h
              exact name_true a s c k n _ h
        · rw [if_neg h3] at h
          exact absurd h (by simp)
      · rw [if_neg h2] at h
        exact absurd h (by simp)
    · rw [if_neg h1] at h
      obtain ⟨t, _, h⟩ := Option.bind_eq_some_iff.1 h
      cases t
      · exact absurd h (by simp)
      · rw [if_pos rfl] at h
        have h2 := Option.some.inj h
        rw [beq_iff_eq] at h2
        exact List.eq_nil_of_length_eq_zero (by omega)
theorem j1_true (a : Int) (t : Bool) (s : ByteArray) (c : List Int) (ht : t = true → 2 ≤ a ∧ a ≤ 3) (hc : c.length ≤ 300) (h : impl_GoodPart.j1 701 a t a s c = some true) : (2 ≤ a ∧ a ≤ 4) ∧ s.size = 0 ∧ ∀ y ∈ c, 0 ≤ y ∧ y ≤ 65535 := by
  rw [show 701 = 700 + 1 from rfl, impl_GoodPart.j1] at h
  cases t
  · rw [if_neg (by decide)] at h
    by_cases h4 : a = 4
    · rw [if_pos h4] at h
      by_cases hz : s.toList = ([] : List UInt8)
      · rw [if_pos hz] at h
        by_cases h1 : (c.length : Int) = 1
        · rw [if_pos h1, if_pos (by omega), impl_in_eq] at h
          have h2 : decide (0 ≤ rd c 0 ∧ rd c 0 ≤ 1) = true := Option.some.inj h
          rw [decide_eq_true_eq] at h2
          obtain ⟨x, rfl⟩ := List.length_eq_one_iff.1 (show c.length = 1 by omega)
          have e : rd [x] 0 = x := rfl
          rw [e] at h2
          refine ⟨by omega, noBytes hz, fun y hy => ?_⟩
          rw [List.mem_singleton.1 hy]
          omega
        · rw [if_neg h1] at h
          exact absurd h (by simp)
      · rw [if_neg hz] at h
        exact absurd h (by simp)
    · rw [if_neg h4] at h
      exact absurd h (by simp)
  · rw [if_pos rfl] at h
    have ha := ht rfl
    by_cases hz : s.toList = ([] : List UInt8)
    · rw [if_pos hz] at h
      by_cases h1 : (c.length : Int) ≤ 20
      · rw [if_pos h1] at h
        obtain ⟨u, _, h⟩ := Option.bind_eq_some_iff.1 h
        cases u
        · exact absurd h (by simp)
        · rw [if_pos rfl, impl_allIn_eq _ _ _ _ (by omega) (by omega)] at h
          have h2 : (c.all fun x => decide (0 ≤ x ∧ x ≤ 65535)) = true := Option.some.inj h
          rw [List.all_eq_true] at h2
          exact ⟨by omega, noBytes hz, fun y hy => of_decide_eq_true (h2 y hy)⟩
      · rw [if_neg h1] at h
        exact absurd h (by simp)
    · rw [if_neg hz] at h
      exact absurd h (by simp)
theorem gd_in (a : Int) (s : ByteArray) (c : List Int) (hs : s.size ≤ 300) (hc : c.length ≤ 300) (h : gdF a s c = true) : (1 ≤ a ∧ a ≤ 4) ∧ (s.size ≤ 20 ∧ c.length ≤ 20) ∧ (a = 1 → c = []) ∧ (¬ a = 1 → s = ⟨#[]⟩) ∧ ∀ y ∈ c, 0 ≤ y ∧ y ≤ 65535 := by
  obtain ⟨b, _, e2, hb⟩ := both_part a s c 701 (by omega) (by omega) (by omega)
  have g := (gd_both a s c 701 hs hc (Nat.le_refl _)).2
  rw [h] at g
  have hbt : b = true := by
    rw [e2] at g
    exact Option.some.inj g
  have hsz := hb hbt
  unfold impl_GoodPart.f at g
  by_cases ha : a = 1
  · rw [if_pos ha] at g
    have hn := name_true a s c 701 _ _ g
    exact ⟨by omega, hsz, fun _ => hn, fun e => absurd ha e, fun y hy => by rw [hn] at hy; exact absurd hy List.not_mem_nil⟩
  · rw [if_neg ha] at g
    have key : (2 ≤ a ∧ a ≤ 4) ∧ s.size = 0 ∧ ∀ y ∈ c, 0 ≤ y ∧ y ≤ 65535 := by
      by_cases h2 : a = 2
      · rw [if_pos h2] at g
        exact j1_true a _ s c (fun e => by rw [beq_iff_eq] at e; omega) hc g
      · rw [if_neg h2] at g
        exact j1_true a _ s c (fun e => by rw [beq_iff_eq] at e; omega) hc g
    exact ⟨by omega, hsz, fun e => absurd e ha, fun _ => size_zero key.2.1, key.2.2⟩
-- bytes of parts
def tb (p : S38) : List Int := [p.f0 % 256, ((p.f1.size + 2 * p.f2.length : Nat) : Int) % 256] ++ (bytesOf p.f1 ++ two p.f2)
theorem tb_in (p : S38) : ∀ x ∈ tb p, 0 ≤ x ∧ x ≤ 255 := by
  intro x hx
  rcases List.mem_append.1 hx with h | h
  · simp only [List.mem_cons, List.not_mem_nil, or_false] at h
    omega
  · rcases List.mem_append.1 h with h | h
    · exact bytes_in _ x h
    · exact two_in _ x h
theorem tb_len (p : S38) : (tb p).length = 2 + p.f1.size + 2 * p.f2.length := by
  unfold tb
  rw [List.length_append, List.length_append, bytesOf_length, two_len]
  simp
  omega
theorem text_tb (p : S38) : textI p.f0 p.f1 p.f2 = strOfNums (tb p) := by
  have h := text_bytes p.f0 p.f1 p.f2
  rw [← str_bytes (textI p.f0 p.f1 p.f2), h]
  rfl
def catL (l : List S38) : List Int := l.flatMap tb
theorem catL_cons (p : S38) (l : List S38) : catL (p :: l) = tb p ++ catL l := by simp [catL]
theorem catL_app (a b : List S38) : catL (a ++ b) = catL a ++ catL b := by simp [catL]
theorem catL_in (l : List S38) : ∀ x ∈ catL l, 0 ≤ x ∧ x ≤ 255 := by
  intro x hx
  obtain ⟨p, _, h⟩ := List.mem_flatMap.1 hx
  exact tb_in p x h
theorem skip_str (a : Int) (body rest : List Int) (ha : 0 ≤ a ∧ a ≤ 255) (hb : ∀ x ∈ body, 0 ≤ x ∧ x ≤ 255) (hr : ∀ x ∈ rest, 0 ≤ x ∧ x ≤ 255) (hl : 2 + body.length + rest.length ≤ 200) :
    (strOfNums (a :: (body.length : Int) :: (body ++ rest))).size = 2 + body.length + rest.length ∧ skipR (strOfNums (a :: (body.length : Int) :: (body ++ rest))) = (a, (body.length : Int), strOfNums body, true) ∧
      (strOfNums (a :: (body.length : Int) :: (body ++ rest))).extract (2 + (body.length : Int)).toNat (strOfNums (a :: (body.length : Int) :: (body ++ rest))).size = strOfNums rest := by
  have hin : ∀ x ∈ a :: (body.length : Int) :: (body ++ rest), 0 ≤ x ∧ x ≤ 255 := by
    intro x hx
    rcases List.mem_cons.1 hx with rfl | hx
    · exact ha
    · rcases List.mem_cons.1 hx with rfl | hx
      · omega
      · rcases List.mem_append.1 hx with h | h
        · exact hb x h
        · exact hr x h
  have hsz : (strOfNums (a :: (body.length : Int) :: (body ++ rest))).size = 2 + body.length + rest.length := by
    rw [strSize]
    simp only [List.length_cons, List.length_append]
    omega
  have hbs := bytes_str _ hin
  generalize strOfNums (a :: (body.length : Int) :: (body ++ rest)) = S at hsz hbs ⊢
  have g0 := bt_get S 0 (by omega)
  have g1 := bt_get S 1 (by omega)
  rw [hbs] at g0 g1
  have b0 : bt S 0 = a := by simpa using g0.symm
  have b1 : bt S 1 = (body.length : Int) := by simpa using g1.symm
  have hn : (2 + (body.length : Int)).toNat = body.length + 2 := by omega
  have hc : (2 ≤ S.size ∧ S.size ≤ 200) ∧ bt S 1 ≤ (S.size : Int) - 2 := by rw [b1]; omega
  refine ⟨hsz, ?_, ?_⟩
  · unfold skipR
    rw [if_pos hc, b0, b1, hn, str_cut S 2 _ (by omega), hbs]
    rw [List.take_succ_cons, List.take_succ_cons, List.take_left]
    rfl
  · rw [hn, str_cut S _ _ (Nat.le_refl _), hbs, List.take_of_length_le (by simp only [List.length_cons, List.length_append]; omega), List.drop_succ_cons, List.drop_succ_cons, List.drop_left]
theorem part_back (p : S38) (k : Nat) (hp : gd p = true) (hS : Small p) (hk : 800 < k) : impl_partOf.f k p.f0 (strOfNums (bytesOf p.f1 ++ two p.f2)) = some (p.f0, p.f1, p.f2, true) := by
  obtain ⟨_, ⟨hs, hc⟩, h1, h2, hr⟩ := gd_in p.f0 p.f1 p.f2 hS.1 hS.2 hp
  unfold impl_partOf.f
  by_cases ha : p.f0 = 1
  · have e : strOfNums (bytesOf p.f1 ++ two p.f2) = p.f1 := by
      rw [h1 ha]
      show strOfNums (bytesOf p.f1 ++ []) = p.f1
      rw [List.append_nil, str_bytes]
    have g := (gd_both p.f0 p.f1 p.f2 k hS.1 hS.2 (by omega)).2
    rw [show gdF p.f0 p.f1 p.f2 = true from hp, h1 ha] at g
    rw [if_pos ha, e, g, h1 ha]
    rfl
  · have hz := h2 ha
    have e : strOfNums (bytesOf p.f1 ++ two p.f2) = strOfNums (two p.f2) := by
      rw [hz]
      rfl
    have hsz : (strOfNums (two p.f2)).size = 2 * p.f2.length := by rw [strSize, two_len]
    have hcc : (strOfNums (two p.f2)).size ≤ 40 ∧ (strOfNums (two p.f2)).size % 2 = 0 := by omega
    have ht : impl_TakeNums.f k (strOfNums (two p.f2)) = some (p.f2, true) := by
      have e2 := tk_two p.f2 [] (fun y hy => absurd hy List.not_mem_nil) hr
      have e3 : tk (strOfNums (two p.f2)) 0 p.f2.length = p.f2 := e2
      rw [impl_TakeNums_f _ _ (by omega), if_pos hcc, hsz, show 2 * p.f2.length / 2 = p.f2.length by omega, e3]
    have g := (gd_both p.f0 p.f1 p.f2 k hS.1 hS.2 (by omega)).2
    rw [show gdF p.f0 p.f1 p.f2 = true from hp, hz] at g
    rw [if_neg ha, e, ht, Option.bind_some]
    dsimp only
    rw [if_pos rfl, g, hz]
    rfl
/-- A known part is read. -/
theorem read_part (p : S38) (L : List Int) (hp : gd p = true) (hS : Small p) (hL : ∀ x ∈ L, 0 ≤ x ∧ x ≤ 255) (hl : (tb p).length + L.length ≤ 200) (out : List S38) (ho : out.length < 10) (left : Int) (k : Nat) (hk : 800 < k) :
    impl_ReadFrame.l0 (k + 1) (strOfNums (tb p ++ L)) out left = impl_ReadFrame.l0 k (strOfNums L) (out ++ [p]) left := by
  obtain ⟨ha, ⟨hs, hc⟩, _, _, _⟩ := gd_in p.f0 p.f1 p.f2 hS.1 hS.2 hp
  have htl := tb_len p
  have hbl : (bytesOf p.f1 ++ two p.f2).length = p.f1.size + 2 * p.f2.length := by rw [List.length_append, bytesOf_length, two_len]
  have e : tb p ++ L = p.f0 :: ((bytesOf p.f1 ++ two p.f2).length : Int) :: ((bytesOf p.f1 ++ two p.f2) ++ L) := by
    unfold tb
    rw [hbl, show p.f0 % 256 = p.f0 by omega, show ((p.f1.size + 2 * p.f2.length : Nat) : Int) % 256 = ((p.f1.size + 2 * p.f2.length : Nat) : Int) by omega]
    simp
  have hbin : ∀ x ∈ bytesOf p.f1 ++ two p.f2, 0 ≤ x ∧ x ≤ 255 := by
    intro x hx
    rcases List.mem_append.1 hx with h | h
    · exact bytes_in _ x h
    · exact two_in _ x h
  obtain ⟨z1, z2, z3⟩ := skip_str p.f0 (bytesOf p.f1 ++ two p.f2) L (by omega) hbin hL (by omega)
  have hpb := part_back p k hp hS hk
  rw [e]
  generalize strOfNums (p.f0 :: ((bytesOf p.f1 ++ two p.f2).length : Int) :: ((bytesOf p.f1 ++ two p.f2) ++ L)) = S at z1 z2 z3 ⊢
  generalize (bytesOf p.f1 ++ two p.f2).length = n at hbl z1 z2 z3 ⊢
  have hne : ¬ S.toList = ([] : List UInt8) := fun h => by
    have := noBytes h
    omega
  have hw : wrap64 (2 + (n : Int)) = 2 + (n : Int) := w64 (by omega) (by omega)
  have c1 : (0 : Int) ≤ 2 + (n : Int) := by omega
  have c2 : 2 + (n : Int) ≤ (S.size : Int) := by omega
  have c3 : ¬ (out.length : Int) = 10 := by omega
  have c4 : out.length < 2932031007402 := by omega
  rw [impl_ReadFrame.l0, if_neg hne, impl_skip S (by omega), z2, Option.bind_some]
  dsimp only
  rw [if_pos rfl, hw, if_pos c1, if_pos c2, in14', decide_eq_true ha, Option.bind_some, if_pos rfl, hpb, Option.bind_some]
  dsimp only
  rw [if_pos rfl, if_neg c3, if_pos c4, z3]
/-- A part of a kind that is not known is left out. -/
theorem read_skip (L : List Int) (hL : ∀ x ∈ L, 0 ≤ x ∧ x ≤ 255) (hl : 3 + L.length ≤ 200) (out : List S38) (left : Int) (h0 : 0 ≤ left ∧ left ≤ 1000) (k : Nat) :
    impl_ReadFrame.l0 (k + 1) (strOfNums ([99, 1, 122] ++ L)) out left = impl_ReadFrame.l0 k (strOfNums L) out (left + 1) := by
  obtain ⟨z1, z2, z3⟩ := skip_str 99 [122] L (by omega) (fun x hx => by rw [List.mem_singleton.1 hx]; omega) hL (by simp; omega)
  have e : [99, 1, 122] ++ L = (99 : Int) :: (([122] : List Int).length : Int) :: (([122] : List Int) ++ L) := rfl
  rw [e]
  generalize strOfNums ((99 : Int) :: (([122] : List Int).length : Int) :: (([122] : List Int) ++ L)) = S at z1 z2 z3 ⊢
  have z1' : S.size = 3 + L.length := by
    rw [z1]
    simp
  have hne : ¬ S.toList = ([] : List UInt8) := fun h => by
    have := noBytes h
    omega
  have z2' : skipR S = (99, 1, strOfNums [122], true) := z2
  have z3' : S.extract (2 + (1 : Int)).toNat S.size = strOfNums L := z3
  have hw : wrap64 (2 + 1) = 2 + 1 := w64 (by omega) (by omega)
  have c2 : (2 : Int) + 1 ≤ (S.size : Int) := by omega
  have hd : decide ((1 : Int) ≤ 99 ∧ (99 : Int) ≤ 4) = false := by decide
  rw [impl_ReadFrame.l0, if_neg hne, impl_skip S (by omega), z2', Option.bind_some]
  dsimp only
  rw [if_pos rfl, hw, if_pos (by decide), if_pos c2, in14', hd, Option.bind_some, if_neg (by decide), z3', w64 (by omega) (by omega)]
theorem read_end (out : List S38) (left : Int) (k : Nat) : impl_ReadFrame.l0 (k + 1) (strOfNums []) out left = some (out, left, 0, true) := by
  have e : (strOfNums []).toList = ([] : List UInt8) := emptyList
  rw [impl_ReadFrame.l0, if_pos e]
theorem read_list : ∀ (l : List S38) (L : List Int) (out : List S38) (left : Int) (k : Nat), (∀ p ∈ l, gd p = true ∧ Small p) → (∀ x ∈ L, 0 ≤ x ∧ x ≤ 255) → (catL l).length + L.length ≤ 200 → out.length + l.length ≤ 10 → l.length + 900 < k →
    impl_ReadFrame.l0 k (strOfNums (catL l ++ L)) out left = impl_ReadFrame.l0 (k - l.length) (strOfNums L) (out ++ l) left
  | [], L, out, left, k, _, _, _, _, _ => by
    rw [List.append_nil]
    rfl
  | p :: l, L, out, left, k, h, hL, hl, ho, hk => by
    obtain ⟨k, rfl⟩ : ∃ m, k = m + 1 := ⟨k - 1, by omega⟩
    obtain ⟨hp, hS⟩ := h p List.mem_cons_self
    rw [List.length_cons] at hk ho
    rw [catL_cons, List.length_append] at hl
    have hin : ∀ x ∈ catL l ++ L, 0 ≤ x ∧ x ≤ 255 := by
      intro x hx
      rcases List.mem_append.1 hx with g | g
      · exact catL_in l x g
      · exact hL x g
    rw [catL_cons, List.append_assoc, read_part p (catL l ++ L) hp hS hin (by rw [List.length_append]; omega) out (by omega) left k (by omega), read_list l L (out ++ [p]) left k (fun q hq => h q (List.mem_cons_of_mem _ hq)) hL (by omega) (by rw [List.length_append, List.length_singleton]; omega) (by omega),
      List.append_assoc, List.singleton_append, List.length_cons, show k + 1 - (l.length + 1) = k - l.length by omega]
-- backward: what was read is what is written
theorem part_fwd (a : Int) (body : ByteArray) (k : Nat) (q : Int × ByteArray × List Int × Bool) (ha : 1 ≤ a ∧ a ≤ 4) (hb : body.size ≤ 200) (hk : 900 < k) (h : impl_partOf.f k a body = some q) (hq : q.2.2.2 = true) :
    gd ⟨q.1, q.2.1, q.2.2.1⟩ = true ∧ Small ⟨q.1, q.2.1, q.2.2.1⟩ ∧ tb ⟨q.1, q.2.1, q.2.2.1⟩ = a :: (body.size : Int) :: bytesOf body := by
  have hbl := bytesOf_length body
  unfold impl_partOf.f at h
  by_cases h1 : a = 1
  · rw [if_pos h1, (gd_both a body [] k (by omega) (by simp) (by omega)).2, Option.bind_some] at h
    have e := Option.some.inj h
    subst e
    refine ⟨hq, ⟨by show body.size ≤ 300; omega, by simp⟩, ?_⟩
    unfold tb
    simp only [List.length_nil, Nat.mul_zero, Nat.add_zero]
    rw [show a % 256 = a by omega, show (body.size : Int) % 256 = (body.size : Int) by omega]
    simp [two]
  · rw [if_neg h1, impl_TakeNums_f body k (by omega), Option.bind_some] at h
    by_cases hc : body.size ≤ 40 ∧ body.size % 2 = 0
    · rw [if_pos hc] at h
      dsimp only at h
      have hz : (⟨#[]⟩ : ByteArray).size = 0 := rfl
      rw [if_pos rfl, (gd_both a ⟨#[]⟩ (tk body 0 (body.size / 2)) k (by omega) (by rw [tk_len]; omega) (by omega)).2, Option.bind_some] at h
      have e := Option.some.inj h
      subst e
      refine ⟨hq, ⟨by show (⟨#[]⟩ : ByteArray).size ≤ 300; omega, by show (tk body 0 (body.size / 2)).length ≤ 300; rw [tk_len]; omega⟩, ?_⟩
      have em : two (tk body 0 (body.size / 2)) = bytesOf body := by
        rw [two_tk body _ 0 (by omega), List.drop_zero, List.take_of_length_le (by omega)]
      have eb : bytesOf (⟨#[]⟩ : ByteArray) = [] := rfl
      unfold tb
      dsimp only
      rw [em, eb, tk_len, hz, show a % 256 = a by omega, show ((0 + 2 * (body.size / 2) : Nat) : Int) % 256 = (body.size : Int) by omega]
      rfl
    · rw [if_neg hc] at h
      dsimp only at h
      rw [if_neg Bool.false_ne_true] at h
      have e := Option.some.inj h
      subst e
      exact absurd hq Bool.false_ne_true
theorem skip_split (x : ByteArray) (hs : x.size ≤ 200) (h : (skipR x).2.2.2 = true) : bytesOf x = (skipR x).1 :: ((skipR x).2.2.1.size : Int) :: (bytesOf (skipR x).2.2.1 ++ bytesOf (x.extract (2 + (skipR x).2.1).toNat x.size)) := by
  have hbd := skipR_bd x hs h
  have b0 := bt_range x 0
  have b1 := bt_range x 1
  have hl := bytesOf_length x
  have hc : (2 ≤ x.size ∧ x.size ≤ 200) ∧ bt x 1 ≤ (x.size : Int) - 2 := by
    unfold skipR at h
    by_cases c : (2 ≤ x.size ∧ x.size ≤ 200) ∧ bt x 1 ≤ (x.size : Int) - 2
    · exact c
    · rw [if_neg c] at h
      simp at h
  have e : skipR x = (bt x 0, bt x 1, x.extract 2 (2 + bt x 1).toNat, true) := by
    unfold skipR
    rw [if_pos hc]
  rw [e] at hbd ⊢
  dsimp only at hbd ⊢
  rw [hbd.2.2]
  obtain ⟨n, hn⟩ : ∃ n : Nat, (2 + bt x 1).toNat = 2 + n := ⟨(bt x 1).toNat, by omega⟩
  have hsub : ∀ i j : Nat, ∀ y ∈ ((bytesOf x).take j).drop i, 0 ≤ y ∧ y ≤ 255 := fun i j y hy => bytes_in x y (List.mem_of_mem_take (List.mem_of_mem_drop hy))
  rw [hn, str_cut x 2 (2 + n) (by omega), str_cut x (2 + n) x.size (Nat.le_refl _), bytes_str _ (hsub _ _), bytes_str _ (hsub _ _), List.take_of_length_le (show (bytesOf x).length ≤ x.size by omega)]
  have g0 := bt_get x 0 (by omega)
  have g1 := bt_get x 1 (by omega)
  have g0' : (bytesOf x)[0]? = some (bt x 0) := g0
  have g1' : (bytesOf x)[1]? = some (bt x 1) := g1
  generalize bytesOf x = X at hl g0' g1' ⊢
  match X, hl, g0', g1' with
  | u :: v :: Y, hl, g0', g1' =>
    have e0 : u = bt x 0 := by simpa using g0'
    have e1 : v = bt x 1 := by simpa using g1'
    rw [← e0, ← e1, show 2 + n = n + 2 by omega, List.take_succ_cons, List.take_succ_cons, List.drop_succ_cons, List.drop_succ_cons, List.drop_succ_cons, List.drop_succ_cons, List.drop_zero, List.take_append_drop]
  | [u], hl, _, _ => simp at hl; omega
  | [], hl, _, _ => simp at hl; omega
theorem read_inv (d : Nat) : ∀ (x : ByteArray) (out : List S38) (left : Int) (k : Nat) (r : List S38 × Int × Int × Bool), x.size ≤ d → x.size ≤ 200 → out.length ≤ 10 → 0 ≤ left → left + d ≤ 1000 → d + 1000 < k → impl_ReadFrame.l0 k x out left = some r → r.2.2.2 = true →
    left ≤ r.2.1 ∧ r.1.length ≤ 10 ∧ (r.2.1 = 0 → ∃ ps, r.1 = out ++ ps ∧ (∀ p ∈ ps, gd p = true ∧ Small p) ∧ catL ps = bytesOf x) := by
  induction d with
  | zero =>
    intro x out left k r hx hx2 ho h0 hl hk h hr
    obtain ⟨k, rfl⟩ : ∃ m, k = m + 1 := ⟨k - 1, by omega⟩
    have e : x = ⟨#[]⟩ := size_zero (by omega)
    subst e
    rw [impl_ReadFrame.l0, if_pos emptyList] at h
    have e := Option.some.inj h
    subst e
    exact ⟨Int.le_refl _, ho, fun _ => ⟨[], by simp, fun p hp => absurd hp List.not_mem_nil, rfl⟩⟩
  | succ d ih =>
    intro x out left k r hx hx2 ho h0 hl hk h hr
    obtain ⟨k, rfl⟩ : ∃ m, k = m + 1 := ⟨k - 1, by omega⟩
    rw [impl_ReadFrame.l0] at h
    by_cases hz : x.toList = ([] : List UInt8)
    · rw [if_pos hz] at h
      have e := Option.some.inj h
      subst e
      have e2 : x = ⟨#[]⟩ := size_zero (noBytes hz)
      subst e2
      exact ⟨Int.le_refl _, ho, fun _ => ⟨[], by simp, fun p hp => absurd hp List.not_mem_nil, rfl⟩⟩
    · rw [if_neg hz, impl_skip x hx2, Option.bind_some] at h
      cases hsk : (skipR x).2.2.2
      · rw [hsk, if_neg (by decide)] at h
        have e := Option.some.inj h
        subst e
        exact absurd hr (by decide)
      · have hsp := skip_split x hx2 hsk
        obtain ⟨ha, hb, hc⟩ := skipR_bd x hx2 hsk
        rw [hsk, if_pos rfl] at h
        generalize skipR x = s at hsk hsp ha hb hc h
        obtain ⟨p0, p1, p2, p3⟩ := s
        dsimp only at hsk hsp ha hb hc h
        have hw : wrap64 (2 + p1) = 2 + p1 := w64 (by omega) (by omega)
        have c1 : (0 : Int) ≤ 2 + p1 := by omega
        have c2 : 2 + p1 ≤ (x.size : Int) := by omega
        have hxs : (x.extract (2 + p1).toNat x.size).size = x.size - (2 + p1).toNat := by rw [ByteArray.size_extract]; omega
        rw [hw, if_pos c1, if_pos c2, in14', Option.bind_some] at h
        by_cases h4 : 1 ≤ p0 ∧ p0 ≤ 4
        · rw [decide_eq_true h4, if_pos rfl] at h
          obtain ⟨q, hq, h⟩ := Option.bind_eq_some_iff.1 h
          cases hq3 : q.2.2.2
          · rw [hq3, if_neg (by decide)] at h
            have e := Option.some.inj h
            subst e
            exact absurd hr (by decide)
          · obtain ⟨f1, f2, f3⟩ := part_fwd p0 p2 k q h4 (by omega) (by omega) hq hq3
            rw [hq3, if_pos rfl] at h
            by_cases h10 : (out.length : Int) = 10
            · rw [if_pos h10] at h
              have e := Option.some.inj h
              subst e
              exact absurd hr (by decide)
            · rw [if_neg h10, if_pos (by omega)] at h
              obtain ⟨i1, i2, i3⟩ := ih (x.extract (2 + p1).toNat x.size) (out ++ [⟨q.1, q.2.1, q.2.2.1⟩]) left k r (by omega) (by omega) (by rw [List.length_append, List.length_singleton]; omega) h0 (by omega) (by omega) h hr
              refine ⟨i1, i2, fun e0 => ?_⟩
              obtain ⟨ps, g1, g2, g3⟩ := i3 e0
              refine ⟨⟨q.1, q.2.1, q.2.2.1⟩ :: ps, by rw [g1, List.append_assoc, List.singleton_append], fun p hp => ?_, ?_⟩
              · rcases List.mem_cons.1 hp with rfl | hp
                · exact ⟨f1, f2⟩
                · exact g2 p hp
              · rw [catL_cons, f3, g3, hsp]
                simp
        · rw [decide_eq_false h4, if_neg (by decide), w64 (x := left + 1) (by omega) (by omega)] at h
          obtain ⟨i1, i2, _⟩ := ih (x.extract (2 + p1).toNat x.size) out (left + 1) k r (by omega) (by omega) ho (by omega) (by omega) (by omega) h hr
          exact ⟨by omega, i2, fun e0 => by omega⟩
-- the text of a frame
/-- What FrameText tells. -/
def frI (l : List S38) : ByteArray × Bool := if l.all gd = true ∧ l.length ≤ 10 ∧ (catL l).length ≤ 200 then (strOfNums (catL l), true) else (⟨#[]⟩, false)
theorem drop_Q (l : List S38) (i : Nat) (h : i < l.length) : l.drop i = rd_T38 l i :: l.drop (i + 1) := by
  rw [rd_T38_at l i h]
  exact List.drop_eq_getElem_cons h
theorem good_l (l : List S38) (hn : l.length ≤ 1000) (hS : ∀ p ∈ l, Small p) (d : Nat) : ∀ (k i : Nat), i + d = l.length → d + 800 < k →
    spec_l2Good.l0 k l l l.length i = some ((l.drop i).all gd && decide (l.length ≤ 10)) ∧ impl_areParts.l0 k l l l.length i = some ((l.drop i).all gd && decide (l.length ≤ 10)) := by
  induction d with
  | zero =>
    intro k i h hk
    obtain ⟨k, rfl⟩ : ∃ m, k = m + 1 := ⟨k - 1, by omega⟩
    have e : decide ((l.length : Int) ≤ 10) = decide (l.length ≤ 10) := by
      rw [decide_eq_decide]
      omega
    rw [spec_l2Good.l0, impl_areParts.l0, if_neg (by omega), List.drop_of_length_le (by omega), List.all_nil, Bool.true_and, e]
    refine ⟨rfl, ?_⟩
    rw [if_neg (by omega)]
  | succ d ih =>
    intro k i h hk
    obtain ⟨k, rfl⟩ : ∃ m, k = m + 1 := ⟨k - 1, by omega⟩
    have hp : Small (rd_T38 l i) := by rw [rd_T38_at l i (by omega)]; exact hS _ (List.getElem_mem _)
    obtain ⟨i1, i2⟩ := ih k (i + 1) (by omega) (by omega)
    have hw : wrap64 ((i : Int) + 1) = ((i + 1 : Nat) : Int) := by rw [w64 (by omega) (by omega)]; omega
    have c1 : (i : Int) < (l.length : Int) := by omega
    have c2 : (0 : Int) ≤ (i : Int) := by omega
    obtain ⟨g1, g2⟩ := gd_both (rd_T38 l i).f0 (rd_T38 l i).f1 (rd_T38 l i).f2 k hp.1 hp.2 (by omega)
    have eg : gdF (rd_T38 l i).f0 (rd_T38 l i).f1 (rd_T38 l i).f2 = gd (rd_T38 l i) := rfl
    rw [eg] at g1 g2
    rw [drop_Q l i (by omega), List.all_cons]
    constructor
    · rw [spec_l2Good.l0, if_pos c1, if_pos c2, if_pos c1, g1, Option.bind_some, hw, i1]
      cases gd (rd_T38 l i) <;> rfl
    · rw [impl_areParts.l0, if_pos c1, if_pos c2, if_pos c1, g2, Option.bind_some, hw, i2]
      cases gd (rd_T38 l i) <;> rfl
theorem len_step (A B : List Int) (i : Nat) (h1 : A.length ≤ 62 * i) (h2 : B.length ≤ 62) : (A ++ B).length ≤ 62 * (i + 1) := by
  rw [List.length_append]
  omega
theorem size_ok (A B : List Int) (h1 : A.length ≤ 1000) (h2 : B.length ≤ 1000) : (strOfNums A).size + (strOfNums B).size ≤ 9223372036854775807 := by
  rw [strSize, strSize]
  omega
theorem frame_l (l : List S38) (hn : l.length ≤ 10) (hS : ∀ p ∈ l, gd p = true ∧ Small p) (d : Nat) : ∀ (k i : Nat) (A : List Int), i + d = l.length → A.length ≤ 62 * i → d + 50 < k →
    spec_FrameText.l0 k (strOfNums A) l l.length i = some (if (A ++ catL (l.drop i)).length ≤ 200 then (strOfNums (A ++ catL (l.drop i)), true) else (⟨#[]⟩, false)) ∧
      impl_FrameText.l0 k (strOfNums A) l l.length i = some (if (A ++ catL (l.drop i)).length ≤ 200 then (strOfNums (A ++ catL (l.drop i)), true) else (⟨#[]⟩, false)) := by
  induction d with
  | zero =>
    intro k i A h hA hk
    obtain ⟨k, rfl⟩ : ∃ m, k = m + 1 := ⟨k - 1, by omega⟩
    have hz := strSize A
    have c1 : ¬ (i : Int) < (l.length : Int) := by omega
    have e : catL (l.drop i) = [] := by rw [List.drop_of_length_le (by omega)]; rfl
    rw [e, List.append_nil, spec_FrameText.l0, impl_FrameText.l0, if_neg c1]
    by_cases h2 : A.length ≤ 200
    · have c2 : ¬ ((strOfNums A).size : Int) > 200 := by omega
      rw [if_neg c2, if_pos h2]
      exact ⟨rfl, by rw [if_neg c1]⟩
    · have c2 : ((strOfNums A).size : Int) > 200 := by omega
      rw [if_pos c2, if_neg h2]
      exact ⟨rfl, by rw [if_neg c1]⟩
  | succ d ih =>
    intro k i A h hA hk
    obtain ⟨k, rfl⟩ : ∃ m, k = m + 1 := ⟨k - 1, by omega⟩
    obtain ⟨hp, hP⟩ : gd (rd_T38 l i) = true ∧ Small (rd_T38 l i) := by rw [rd_T38_at l i (by omega)]; exact hS _ (List.getElem_mem _)
    obtain ⟨_, ⟨hs, hc⟩, _⟩ := gd_in _ _ _ hP.1 hP.2 hp
    obtain ⟨t1, t2⟩ := text_is (rd_T38 l i).f0 (rd_T38 l i).f1 (rd_T38 l i).f2 k hs hc (by omega)
    rw [text_tb] at t1 t2
    have h62 : (tb (rd_T38 l i)).length ≤ 62 := by
      rw [tb_len]
      clear t1 t2 hS ih
      omega
    have c3 : (strOfNums A).size + (strOfNums (tb (rd_T38 l i))).size ≤ 9223372036854775807 := size_ok A _ (by clear t1 t2; omega) (by clear t1 t2; omega)
    obtain ⟨i1, i2⟩ := ih k (i + 1) (A ++ tb (rd_T38 l i)) (by clear t1 t2 c3; omega) (len_step A _ i hA h62) (by clear t1 t2 c3; omega)
    clear h62
    have hw : wrap64 ((i : Int) + 1) = ((i + 1 : Nat) : Int) := by
      clear t1 t2 i1 i2 c3
      rw [w64 (by omega) (by omega)]
      omega
    have c1 : (i : Int) < (l.length : Int) := by
      clear t1 t2 i1 i2 c3
      omega
    have c2 : (0 : Int) ≤ (i : Int) := Int.natCast_nonneg i
    rw [List.append_assoc, ← catL_cons, ← drop_Q l i (by omega)] at i1 i2
    constructor
    · rw [spec_FrameText.l0, if_pos c1, if_pos c2, if_pos c1, t1, Option.bind_some, if_pos c3, hw, str_app]
      exact i1
    · rw [impl_FrameText.l0, if_pos c1, if_pos c2, if_pos c1, t2, Option.bind_some, if_pos c3, hw, str_app]
      exact i2
theorem frame_is (l : List S38) (k : Nat) (hn : l.length ≤ 1000) (hS : ∀ p ∈ l, Small p) (hk : l.length + 900 < k) : spec_FrameText.f k l = some (frI l) ∧ impl_FrameText.f k l = some (frI l) := by
  obtain ⟨g1, g2⟩ := good_l l hn hS l.length k 0 (by omega) (by omega)
  have g1' : spec_l2Good.f k l = some (l.all gd && decide (l.length ≤ 10)) := g1
  have g2' : impl_areParts.f k l = some (l.all gd && decide (l.length ≤ 10)) := g2
  unfold spec_FrameText.f impl_FrameText.f frI
  rw [g1', g2', Option.bind_some, Option.bind_some]
  by_cases h : l.all gd = true ∧ l.length ≤ 10
  · obtain ⟨f1, f2⟩ := frame_l l h.2 (fun p hp => ⟨List.all_eq_true.1 h.1 p hp, hS p hp⟩) l.length k 0 [] (by omega) (by simp) (by omega)
    rw [List.nil_append, List.drop_zero] at f1 f2
    have f1' : spec_FrameText.l0 k (⟨#[]⟩ : ByteArray) l l.length 0 = _ := f1
    have f2' : impl_FrameText.l0 k (⟨#[]⟩ : ByteArray) l l.length 0 = _ := f2
    rw [h.1, decide_eq_true h.2, Bool.true_and, if_pos rfl, if_pos rfl, f1', f2']
    by_cases h2 : (catL l).length ≤ 200
    · have hc : true = true ∧ l.length ≤ 10 ∧ (catL l).length ≤ 200 := ⟨rfl, h.2, h2⟩
      rw [if_pos h2, if_pos hc]
      exact ⟨rfl, rfl⟩
    · have hc : ¬ (true = true ∧ l.length ≤ 10 ∧ (catL l).length ≤ 200) := fun e => h2 e.2.2
      rw [if_neg h2, if_neg hc]
      exact ⟨rfl, rfl⟩
  · have hf : (l.all gd && decide (l.length ≤ 10)) = false := by
      cases ha : l.all gd
      · rfl
      · rw [Bool.true_and, decide_eq_false (fun e => h ⟨ha, e⟩)]
    have hc : ¬ (l.all gd = true ∧ l.length ≤ 10 ∧ (catL l).length ≤ 200) := fun e => h ⟨e.1, e.2.1⟩
    rw [hf, if_neg hc]
    exact ⟨rfl, rfl⟩
-- the draws
theorem draw_spoilt_l (l : List Int) (hl : Drawn l) (W : ByteArray) (hW : W.size = 5) (d : Nat) : ∀ (t : ByteArray) (p st : Int), d ≤ 2 → t.size + d ≤ 300 → 0 ≤ p → p + 10 * d ≤ 10000 →
    ∃ r p' q, (∀ k, 2 * d + 3 < k → spec_l1Cur_spoilt.l0 k t W d l p st = some (r, p', q)) ∧ r.size ≤ t.size + d ∧ p ≤ p' := by
  induction d with
  | zero =>
    intro t p st _ ht h0 h1
    refine ⟨t, p, st, fun k hk => ?_, by omega, by omega⟩
    obtain ⟨k, rfl⟩ : ∃ m, k = m + 2 := ⟨k - 2, by omega⟩
    rw [show k + 2 = (k + 1) + 1 from rfl, spec_l1Cur_spoilt.l0, if_neg (by omega), spec_l1Cur_spoilt.j1, if_neg (by decide)]
  | succ d ih =>
    intro t p st hd ht h0 h1
    by_cases hz : (t.size : Int) > 0
    · obtain ⟨i, p1, q1, e1, hi, hp1⟩ := draw_pick l hl p st (t.size : Int) h0 (by omega) (by omega)
      obtain ⟨w, p2, q2, e2, hw, hp2⟩ := draw_pick l hl p1 q1 (W.size : Int) (by omega) (by omega) (by omega)
      obtain ⟨o, p3, q3, e3, ho, hp3⟩ := draw_pick l hl p2 q2 3 (by omega) (by omega) (by omega)
      have hws : (strOfNums [bt W w]).size = 1 := by rw [strSize]; rfl
      have hc1 : (t.extract 0 i.toNat).size = i.toNat := by rw [ByteArray.size_extract]; omega
      have hc2 : (t.extract i.toNat t.size).size = t.size - i.toNat := by rw [ByteArray.size_extract]; omega
      have hi1 : wrap64 (i + 1) = i + 1 := w64 (by omega) (by omega)
      have hc3 : (t.extract (i + 1).toNat t.size).size = t.size - (i + 1).toNat := by rw [ByteArray.size_extract]; omega
      have hd1 : wrap64 (((d + 1 : Nat) : Int) - 1) = (d : Int) := by rw [w64 (by omega) (by omega)]; omega
      have c1 : (0 : Int) ≤ i := hi.1
      have c2 : i ≤ (t.size : Int) := by omega
      have c3 : (0 : Int) ≤ i + 1 := by omega
      have c4 : i + 1 ≤ (t.size : Int) := by omega
      have c5 : (t.extract 0 i.toNat).size + (strOfNums [bt W w]).size ≤ 9223372036854775807 := by omega
      have z1 : (t.extract 0 i.toNat ++ strOfNums [bt W w]).size = i.toNat + 1 := by rw [ByteArray.size_append]; omega
      have c6 : (t.extract 0 i.toNat ++ strOfNums [bt W w]).size + (t.extract i.toNat t.size).size ≤ 9223372036854775807 := by omega
      have c7 : (t.extract 0 i.toNat ++ strOfNums [bt W w]).size + (t.extract (i + 1).toNat t.size).size ≤ 9223372036854775807 := by omega
      have c8 : (t.extract 0 i.toNat).size + (t.extract (i + 1).toNat t.size).size ≤ 9223372036854775807 := by omega
      have go : ∀ u : ByteArray, u.size ≤ t.size + 1 → ∃ r p' q, (∀ k, 2 * d + 3 < k → spec_l1Cur_spoilt.l0 k u W d l p3 q3 = some (r, p', q)) ∧ r.size ≤ t.size + (d + 1) ∧ p3 ≤ p' := fun u hu => by
        obtain ⟨r, p', q, e, hr, hp⟩ := ih u p3 q3 (by omega) (by omega) (by omega) (by omega)
        exact ⟨r, p', q, e, by omega, hp⟩
      have run : ∀ (k : Nat), spec_l1Cur_spoilt.l0 (k + 2) t W ((d + 1 : Nat) : Int) l p st = (if o = 0 then spec_l1Cur_spoilt.l0 k ((t.extract 0 i.toNat ++ strOfNums [bt W w]) ++ t.extract i.toNat t.size) W d l p3 q3 else if o = 1 then spec_l1Cur_spoilt.l0 k ((t.extract 0 i.toNat ++ strOfNums [bt W w]) ++ t.extract (i + 1).toNat t.size) W d l p3 q3 else spec_l1Cur_spoilt.l0 k (t.extract 0 i.toNat ++ t.extract (i + 1).toNat t.size) W d l p3 q3) := fun k => by
        rw [show k + 2 = (k + 1) + 1 from rfl, spec_l1Cur_spoilt.l0, if_pos (by omega), decide_eq_true hz, spec_l1Cur_spoilt.j1, if_pos rfl, e1, Option.bind_some]
        dsimp only
        rw [e2, Option.bind_some]
        dsimp only
        rw [if_pos hw.1, if_pos hw.2, Option.bind_some, e3, Option.bind_some]
        dsimp only
        rw [hi1, hd1, if_pos c1, if_pos c2, if_pos c5, if_pos c6, if_pos c3, if_pos c4, if_pos c7, if_pos c8, if_pos c1, if_pos c2, if_pos c5, if_pos c1, if_pos c2, if_pos c3, if_pos c4]
      by_cases h0 : o = 0
      · obtain ⟨r, p', q, e, hr, hp⟩ := go _ (show ((t.extract 0 i.toNat ++ strOfNums [bt W w]) ++ t.extract i.toNat t.size).size ≤ t.size + 1 by rw [ByteArray.size_append]; omega)
        refine ⟨r, p', q, fun k hk => ?_, hr, by omega⟩
        obtain ⟨k, rfl⟩ : ∃ m, k = m + 2 := ⟨k - 2, by omega⟩
        rw [run, if_pos h0]
        exact e k (by omega)
      · by_cases h1 : o = 1
        · obtain ⟨r, p', q, e, hr, hp⟩ := go _ (show ((t.extract 0 i.toNat ++ strOfNums [bt W w]) ++ t.extract (i + 1).toNat t.size).size ≤ t.size + 1 by rw [ByteArray.size_append]; omega)
          refine ⟨r, p', q, fun k hk => ?_, hr, by omega⟩
          obtain ⟨k, rfl⟩ : ∃ m, k = m + 2 := ⟨k - 2, by omega⟩
          rw [run, if_neg h0, if_pos h1]
          exact e k (by omega)
        · obtain ⟨r, p', q, e, hr, hp⟩ := go _ (show (t.extract 0 i.toNat ++ t.extract (i + 1).toNat t.size).size ≤ t.size + 1 by rw [ByteArray.size_append]; omega)
          refine ⟨r, p', q, fun k hk => ?_, hr, by omega⟩
          obtain ⟨k, rfl⟩ : ∃ m, k = m + 2 := ⟨k - 2, by omega⟩
          rw [run, if_neg h0, if_neg h1]
          exact e k (by omega)
    · refine ⟨t, p, st, fun k hk => ?_, by omega, by omega⟩
      obtain ⟨k, rfl⟩ : ∃ m, k = m + 2 := ⟨k - 2, by omega⟩
      rw [show k + 2 = (k + 1) + 1 from rfl, spec_l1Cur_spoilt.l0, if_pos (by omega), decide_eq_false hz, spec_l1Cur_spoilt.j1, if_neg (by decide)]
theorem small_of (l : List S38) (h : ∀ y ∈ l, PartIn y.f0 y.f1 y.f2) : ∀ p ∈ l, Small p := fun p hp => by
  have := h p hp
  exact ⟨by have := this.2.1; omega, by have := this.2.2; omega⟩
theorem fr_size (l : List S38) : (frI l).1.size ≤ 200 := by
  unfold frI
  by_cases h : l.all gd = true ∧ l.length ≤ 10 ∧ (catL l).length ≤ 200
  · rw [if_pos h]
    show (strOfNums (catL l)).size ≤ 200
    rw [strSize]
    exact h.2.2
  · rw [if_neg h]
    show (⟨#[]⟩ : ByteArray).size ≤ 200
    decide
theorem draw_frame (l : List Int) (hl : Drawn l) : ∃ t : ByteArray, (∀ k, 2000 < k → spec_DrawReadFrame.f k l = some t) ∧ t.size ≤ 250 := by
  obtain ⟨ps, p1, q1, e1, hn, hP, hp1⟩ := draw_parts l hl
  have ef := fun k hk => (frame_is ps k (by omega) (small_of ps hP) hk).1
  have hfs := fr_size ps
  obtain ⟨o, p2, q2, e2, hp2⟩ := draw_one l hl p1 q1 4 (by omega) (by omega) (by omega)
  have fin : ∀ (u : ByteArray) (p st : Int), u.size ≤ 210 → 0 ≤ p → p ≤ 2000 → ∃ (t : ByteArray) (p' q : Int), (∀ k, 100 < k → spec_l1Cur_frame.j0 k u l p st = some (t, p', q)) ∧ t.size ≤ 250 := by
    intro u p st hu h0 h1
    obtain ⟨o3, p3, q3, e3, hp3⟩ := draw_one l hl p st 3 h0 (by omega) (by omega)
    cases o3
    · refine ⟨u, p3, q3, fun k hk => ?_, by omega⟩
      obtain ⟨k, rfl⟩ : ∃ m, k = m + 1 := ⟨k - 1, by omega⟩
      rw [spec_l1Cur_frame.j0, e3, Option.bind_some]
      dsimp only
      rw [if_neg (by decide)]
    · obtain ⟨n, p4, q4, e4, hn4, hp4⟩ := draw_pick l hl p3 q3 3 (by omega) (by omega) (by omega)
      obtain ⟨r, p5, q5, e5, hr, hp5⟩ := draw_spoilt_l l hl (⟨#[0, 1, 2, 4, 97]⟩ : ByteArray) rfl n.toNat u p4 q4 (by omega) (by omega) (by omega) (by omega)
      rw [Int.toNat_of_nonneg hn4.1] at e5
      refine ⟨r, p5, q5, fun k hk => ?_, by omega⟩
      obtain ⟨k, rfl⟩ : ∃ m, k = m + 1 := ⟨k - 1, by omega⟩
      have e6 : spec_l1Cur_spoilt.f k l p3 q3 u (⟨#[0, 1, 2, 4, 97]⟩ : ByteArray) = some (r, p5, q5) := by
        unfold spec_l1Cur_spoilt.f
        rw [e4, Option.bind_some]
        exact e5 k (by omega)
      rw [spec_l1Cur_frame.j0, e3, Option.bind_some]
      dsimp only
      rw [if_pos rfl, e6]
      rfl
  have hD : ∀ (t : ByteArray) (p' q : Int), (∀ k, 1999 < k → spec_l1Cur_frame.f k l 0 0 = some (t, p', q)) → ∀ k, 2000 < k → spec_DrawReadFrame.f k l = some t := fun t p' q h k hk => by
    unfold spec_DrawReadFrame.f
    rw [h k (by omega)]
    rfl
  cases o
  · obtain ⟨t, p', q, e3, ht⟩ := fin (frI ps).1 p2 q2 (by omega) (by omega) (by omega)
    refine ⟨t, hD t p' q fun k hk => ?_, ht⟩
    refine Option.bind_eq_some_iff.2 ⟨(ps, p1, q1), e1 k (by omega), Option.bind_eq_some_iff.2 ⟨frI ps, ef k (by omega), Option.bind_eq_some_iff.2 ⟨(false, p2, q2), e2, ?_⟩⟩⟩
    show (if false = true then _ else spec_l1Cur_frame.j0 k (frI ps).1 l p2 q2) = _
    rw [if_neg (by decide)]
    exact e3 k (by omega)
  · obtain ⟨v, p3, q3, e3, hv, hp3⟩ := draw_ofm l hl p2 q2 [(⟨#[9, 1, 122]⟩ : ByteArray), (⟨#[0, 0]⟩ : ByteArray), (⟨#[5, 3, 97, 98, 99]⟩ : ByteArray)] (by omega) (by omega) (by simp)
    have hvs : v.size ≤ 5 := by
      simp only [List.mem_cons, List.not_mem_nil, or_false] at hv
      rcases hv with rfl | rfl | rfl <;> decide
    obtain ⟨t, p', q, e4, ht⟩ := fin ((frI ps).1 ++ v) p3 q3 (by rw [ByteArray.size_append]; omega) (by omega) (by omega)
    have hc : (frI ps).1.size + v.size ≤ 9223372036854775807 := by omega
    refine ⟨t, hD t p' q fun k hk => ?_, ht⟩
    refine Option.bind_eq_some_iff.2 ⟨(ps, p1, q1), e1 k (by omega), Option.bind_eq_some_iff.2 ⟨frI ps, ef k (by omega), Option.bind_eq_some_iff.2 ⟨(true, p2, q2), e2, ?_⟩⟩⟩
    show (if true = true then (spec_l1Cur_of.f l p2 q2 [(⟨#[9, 1, 122]⟩ : ByteArray), (⟨#[0, 0]⟩ : ByteArray), (⟨#[5, 3, 97, 98, 99]⟩ : ByteArray)]).bind (fun bt391 => if (frI ps).1.size + bt391.1.size ≤ 9223372036854775807 then spec_l1Cur_frame.j0 k ((frI ps).1 ++ bt391.1) l bt391.2.1 bt391.2.2 else none) else _) = _
    rw [if_pos rfl, e3, Option.bind_some]
    show (if (frI ps).1.size + v.size ≤ 9223372036854775807 then spec_l1Cur_frame.j0 k ((frI ps).1 ++ v) l p3 q3 else none) = _
    rw [if_pos hc]
    exact e4 k (by omega)
-- the law's parts
theorem skip_any (t : ByteArray) : ∃ q, spec_SkipPart.f t = some q ∧ impl_SkipPart.f t = some q := by
  by_cases h : t.size ≤ 200
  · exact ⟨_, spec_skip t h, impl_skip t h⟩
  · have c1 : (t.size : Int) ≥ 2 := by omega
    have c2 : (t.size : Int) > 200 := by omega
    refine ⟨(0, 0, ⟨#[]⟩, false), ?_, ?_⟩
    · unfold spec_SkipPart.f spec_l1In.f
      rw [if_pos c1, decide_eq_false (show ¬ (t.size : Int) ≤ 200 by omega)]
      rfl
    · unfold impl_SkipPart.f
      rw [if_pos c2]
theorem second_part (l1 : List Int) (hl : Drawn l1) (k : Nat) (hk : 4000 < k) : laws_FnFrames.j3 k l1 = some true := by
  obtain ⟨k, rfl⟩ : ∃ m, k = m + 2 := ⟨k - 2, by omega⟩
  obtain ⟨t, hD, hts⟩ := draw_frame l1 hl
  obtain ⟨q, s1, s2⟩ := skip_any t
  obtain ⟨r, e1, e2, hrl, hrb, hinv⟩ : ∃ r : List S38 × Int × Int × Bool, spec_ReadFrame.f (k + 1) t = some r ∧ impl_ReadFrame.f (k + 1) t = some r ∧ r.1.length ≤ 10 ∧ (∀ x ∈ r.1, x.f2.length ≤ 20) ∧ (r.2.2.2 = true → r.2.1 = 0 → frI r.1 = (t, true) ∧ ∀ p ∈ r.1, Small p) := by
    unfold spec_ReadFrame.f impl_ReadFrame.f
    by_cases h : t.size ≤ 200
    · have c1 : ¬ (t.size : Int) > 200 := by omega
      rw [if_neg c1, if_neg c1]
      obtain ⟨r, a, b, c, d⟩ := both_read t h 200 0 [] 0 (k + 1) (by omega) (by omega) (by simp) (fun x hx => absurd hx List.not_mem_nil) (by omega) (by omega) (by omega)
      rw [ByteArray.extract_zero_size] at b
      refine ⟨r, a, b, c, d, fun h3 h0 => ?_⟩
      obtain ⟨_, i2, i3⟩ := read_inv 200 t [] 0 (k + 1) r h h (by simp) (by omega) (by omega) (by omega) b h3
      obtain ⟨ps, g1, g2, g3⟩ := i3 h0
      rw [List.nil_append] at g1
      rw [g1] at i2 ⊢
      have hc : ps.all gd = true ∧ ps.length ≤ 10 ∧ (catL ps).length ≤ 200 := ⟨List.all_eq_true.2 fun p hp => (g2 p hp).1, i2, by rw [g3, bytesOf_length]; exact h⟩
      refine ⟨?_, fun p hp => (g2 p hp).2⟩
      unfold frI
      rw [if_pos hc, g3, str_bytes]
    · have c1 : (t.size : Int) > 200 := by omega
      rw [if_pos c1, if_pos c1]
      exact ⟨_, rfl, rfl, by simp, fun x hx => absurd hx List.not_mem_nil, fun e => absurd e (by decide)⟩
  have hsp := sameP r.1 (k + 1) (by omega) (fun x hx => by have := hrb x hx; omega) (by omega)
  rw [show k + 2 = (k + 1) + 1 from rfl, laws_FnFrames.j3, hD _ (by omega), Option.bind_some, e1, e2, Option.bind_some, Option.bind_some, s1, s2, Option.bind_some, Option.bind_some, bne_self_eq_false, if_neg (by decide), if_pos rfl, if_pos rfl, hsp, Option.bind_some, if_pos rfl, bne_self_eq_false, if_neg (by decide), if_pos rfl, if_pos rfl, bne_self_eq_false, laws_FnFrames.j4, if_neg (by decide)]
  cases h3 : r.2.2.2
  · rw [if_neg (by decide)]
  · rw [if_pos rfl]
    by_cases h0 : r.2.1 = 0
    · obtain ⟨f1, f2⟩ := hinv h3 h0
      have ff := (frame_is r.1 k (by omega) f2 (by omega)).2
      rw [f1] at ff
      rw [if_pos h0, ff, Option.bind_some]
      dsimp only
      rw [if_pos rfl, beq_self_eq_true]
    · rw [if_neg h0]
theorem whole_read (ps : List S38) (hgd : ∀ p ∈ ps, gd p = true ∧ Small p) (h10 : ps.length ≤ 10) (hc : (catL ps).length ≤ 200) (k : Nat) (hk : 1000 < k) : impl_ReadFrame.f k (strOfNums (catL ps)) = some (ps, 0, 0, true) := by
  have hsz := strSize (catL ps)
  have c0 : ¬ ((strOfNums (catL ps)).size : Int) > 200 := by omega
  clear hsz
  obtain ⟨k2, hk2⟩ : ∃ k2, k - ps.length = k2 + 1 := ⟨k - ps.length - 1, by omega⟩
  have hr := read_list ps [] [] 0 k hgd (fun x hx => absurd hx List.not_mem_nil) (by simpa using hc) (by simpa using h10) (by omega)
  rw [List.append_nil, List.nil_append, hk2, read_end] at hr
  unfold impl_ReadFrame.f
  rw [if_neg c0]
  exact hr
theorem cat_cut (ps : List S38) (n : Nat) : catL ps = catL (ps.take n) ++ catL (ps.drop n) := by rw [← catL_app, List.take_append_drop]
theorem cut_at (ps : List S38) (n : Nat) : (strOfNums (catL ps)).extract (((strOfNums (catL (ps.take n))).size : Int)).toNat (strOfNums (catL ps)).size = strOfNums (catL (ps.drop n)) := by
  have h1 : (catL ps).take (strOfNums (catL ps)).size = catL ps := List.take_of_length_le (by rw [strSize]; exact Nat.le_refl _)
  rw [Int.toNat_natCast, str_cut _ _ _ (Nat.le_refl _), bytes_str _ (catL_in ps), h1, strSize]
  have h2 := congrArg (List.drop (catL (ps.take n)).length) (cat_cut ps n)
  rw [List.drop_left] at h2
  rw [h2]
theorem three_bytes : (⟨#[99, 1, 122]⟩ : ByteArray) = strOfNums [99, 1, 122] := rfl
theorem cut_read (ps : List S38) (n : Nat) (hgd : ∀ p ∈ ps, gd p = true ∧ Small p) (h10 : ps.length ≤ 10) (hc : (catL ps).length + 3 ≤ 200) (k : Nat) (hk : 2000 < k) :
    impl_ReadFrame.f k ((strOfNums (catL (ps.take n)) ++ (⟨#[99, 1, 122]⟩ : ByteArray)) ++ strOfNums (catL (ps.drop n))) = some (ps, 1, 0, true) := by
  have hcl : (catL ps).length = (catL (ps.take n)).length + (catL (ps.drop n)).length := by
    have h := congrArg List.length (cat_cut ps n)
    rw [List.length_append] at h
    exact h
  have hdl : (ps.take n).length + (ps.drop n).length = ps.length := by rw [← List.length_append, List.take_append_drop]
  have htd := List.take_append_drop n ps
  have ha : ∀ p ∈ ps.take n, gd p = true ∧ Small p := fun p hp => hgd p (List.mem_of_mem_take hp)
  have hb : ∀ p ∈ ps.drop n, gd p = true ∧ Small p := fun p hp => hgd p (List.mem_of_mem_drop hp)
  rw [three_bytes, str_app, str_app, List.append_assoc]
  generalize ps.take n = A at hcl hdl htd ha ⊢
  generalize ps.drop n = B at hcl hdl htd hb ⊢
  subst htd
  have iB := catL_in B
  have hin : ∀ y ∈ [99, 1, 122] ++ catL B, (0 : Int) ≤ y ∧ y ≤ 255 := by
    intro y hy
    rcases List.mem_append.1 hy with g | g
    · simp only [List.mem_cons, List.not_mem_nil, or_false] at g
      omega
    · exact iB y g
  have hz : (catL A ++ ([99, 1, 122] ++ catL B)).length = (catL A).length + (3 + (catL B).length) := by rw [List.length_append, List.length_append]; rfl
  have hz2 : ([99, 1, 122] ++ catL B).length = 3 + (catL B).length := by rw [List.length_append]; rfl
  have c9 : ¬ ((strOfNums (catL A ++ ([99, 1, 122] ++ catL B))).size : Int) > 200 := by
    rw [strSize, hz]
    omega
  obtain ⟨k2, hk2⟩ : ∃ k2, k - A.length = k2 + 1 := ⟨k - A.length - 1, by omega⟩
  obtain ⟨k3, hk3⟩ : ∃ k3, k2 - B.length = k3 + 1 := ⟨k2 - B.length - 1, by omega⟩
  have r1 := read_list A ([99, 1, 122] ++ catL B) [] 0 k ha hin (by rw [hz2]; omega) (by rw [List.length_nil]; omega) (by omega)
  have r2 := read_skip (catL B) iB (by omega) ([] ++ A) 0 (by decide) k2
  have r3 := read_list B [] ([] ++ A) (0 + 1) k2 hb (fun y hy => absurd hy List.not_mem_nil) (by rw [List.length_nil]; omega) (by rw [List.nil_append]; omega) (by omega)
  rw [List.append_nil, hk3, read_end] at r3
  rw [hk2, r2, r3, List.nil_append] at r1
  unfold impl_ReadFrame.f
  rw [if_neg c9]
  exact r1
theorem third_part (m : List Int) (dm : Drawn m) (k : Nat) (hk : 5000 < k) : laws_FnFrames.j2 k m false = some true := by
  obtain ⟨k, rfl⟩ : ∃ j, k = j + 1 := ⟨k - 1, by omega⟩
  rw [laws_FnFrames.j2, if_neg Bool.false_ne_true]
  exact second_part m dm k (by omega)
theorem cut_part (m : List Int) (dm : Drawn m) (ps : List S38) (n : Nat) (hgd : ∀ p ∈ ps, gd p = true ∧ Small p) (h10 : ps.length ≤ 10) (hc : (catL ps).length + 3 ≤ 200) (hsame : ∀ k, 200 < k → laws_sameParts.f k ps ps = some true) (k : Nat) (hk : 6000 < k) :
    ((impl_FrameText.f k (ps.take n)).bind fun b => if b.2 = true then (if b.1.size + 3 ≤ 9223372036854775807 then (if 0 ≤ (b.1.size : Int) then (if (b.1.size : Int) ≤ ((strOfNums (catL ps)).size : Int) then (if (b.1 ++ (⟨#[99, 1, 122]⟩ : ByteArray)).size + ((strOfNums (catL ps)).extract ((b.1.size : Int)).toNat (strOfNums (catL ps)).size).size ≤ 9223372036854775807 then ((impl_ReadFrame.f k ((b.1 ++ (⟨#[99, 1, 122]⟩ : ByteArray)) ++ ((strOfNums (catL ps)).extract ((b.1.size : Int)).toNat (strOfNums (catL ps)).size))).bind fun r => if r.2.2.2 = true then (if r.2.1 = 1 then (if r.2.2.1 = 0 then ((laws_sameParts.f k r.1 ps).bind fun t => laws_FnFrames.j2 k m (!t)) else none) else none) else none) else none) else none) else none) else none) else none) = some true := by
  have hlt : (ps.take n).length ≤ 10 := by
    rw [List.length_take]
    omega
  have hcl : (catL ps).length = (catL (ps.take n)).length + (catL (ps.drop n)).length := by
    have h := congrArg List.length (cat_cut ps n)
    rw [List.length_append] at h
    exact h
  have hA : (ps.take n).all gd = true ∧ (ps.take n).length ≤ 10 ∧ (catL (ps.take n)).length ≤ 200 := ⟨List.all_eq_true.2 fun p hp => (hgd p (List.mem_of_mem_take hp)).1, hlt, by omega⟩
  have eA : frI (ps.take n) = (strOfNums (catL (ps.take n)), true) := by
    unfold frI
    rw [if_pos hA]
  have ff := (frame_is (ps.take n) k (by omega) (fun p hp => (hgd p (List.mem_of_mem_take hp)).2) (by omega)).2
  rw [eA] at ff
  have hread := cut_read ps n hgd h10 hc k (by omega)
  have hcut := cut_at ps n
  have hzA := strSize (catL (ps.take n))
  have hzB := strSize (catL (ps.drop n))
  have hzC := strSize (catL ps)
  refine Option.bind_eq_some_iff.2 ⟨_, ff, ?_⟩
  dsimp only
  rw [hcut]
  clear hcut ff eA hA
  generalize strOfNums (catL (ps.take n)) = TA at hzA hread ⊢
  generalize strOfNums (catL (ps.drop n)) = TB at hzB hread ⊢
  generalize strOfNums (catL ps) = TC at hzC ⊢
  have d1 : TA.size + 3 ≤ 9223372036854775807 := by omega
  have d2 : (0 : Int) ≤ (TA.size : Int) := Int.natCast_nonneg _
  have d3 : (TA.size : Int) ≤ (TC.size : Int) := by omega
  have d4 : (TA ++ (⟨#[99, 1, 122]⟩ : ByteArray)).size + TB.size ≤ 9223372036854775807 := by
    rw [ByteArray.size_append, show (⟨#[99, 1, 122]⟩ : ByteArray).size = 3 from rfl]
    omega
  rw [if_pos rfl, if_pos d1, if_pos d2, if_pos d3, if_pos d4]
  refine Option.bind_eq_some_iff.2 ⟨_, hread, ?_⟩
  dsimp only
  rw [if_pos rfl, if_pos rfl, if_pos rfl]
  exact Option.bind_eq_some_iff.2 ⟨_, hsame k (by omega), third_part m dm k (by omega)⟩
theorem rest_in (x : Int) (n : Nat) (hx : 0 ≤ x) (hn : n ≤ 1000) : wrap64 ((n : Int) + 1) = (n : Int) + 1 ∧ Int.tmod x ((n : Int) + 1) = x % ((n : Int) + 1) ∧ 0 ≤ x % ((n : Int) + 1) ∧ x % ((n : Int) + 1) ≤ (n : Int) ∧ ¬ (n : Int) + 1 = 0 := by
  have a := Int.emod_nonneg x (show (n : Int) + 1 ≠ 0 by omega)
  have b := Int.emod_lt_of_pos x (show (0 : Int) < (n : Int) + 1 by omega)
  exact ⟨w64 (by omega) (by omega), tm hx, a, by omega, by omega⟩
theorem first_part (m : List Int) (dm : Drawn m) (ps : List S38) (hgd : ∀ p ∈ ps, gd p = true ∧ Small p) (h10 : ps.length ≤ 10) (hc : (catL ps).length ≤ 200) (hsame : ∀ k, 200 < k → laws_sameParts.f k ps ps = some true) (k : Nat) (hk : m.length + 7000 < k) : laws_FnFrames.j1 k m ps (strOfNums (catL ps)) false = some true := by
  obtain ⟨k, rfl⟩ : ∃ j, k = j + 1 := ⟨k - 1, by omega⟩
  have hz := strSize (catL ps)
  have w1 : wrap64 (((strOfNums (catL ps)).size : Int) + 3) = ((strOfNums (catL ps)).size : Int) + 3 := by
    rw [hz]
    exact w64 (by omega) (by omega)
  rw [laws_FnFrames.j1, if_neg Bool.false_ne_true, w1]
  clear w1
  by_cases hlen : (catL ps).length + 3 ≤ 200
  · have c1 : ((strOfNums (catL ps)).size : Int) + 3 ≤ 200 := by omega
    clear hz
    obtain ⟨x, hx, hx0, hx1⟩ := number_of m dm
    obtain ⟨w2, w3, hr0, hr1, hr2⟩ := rest_in x ps.length hx0 (by omega)
    rw [if_pos c1]
    refine Option.bind_eq_some_iff.2 ⟨x, hx k (by omega), ?_⟩
    rw [w2, if_neg hr2, w3, if_pos hr0, if_pos hr1]
    exact cut_part m dm ps (x % ((ps.length : Int) + 1)).toNat hgd h10 hlen hsame k (by omega)
  · have c1 : ¬ ((strOfNums (catL ps)).size : Int) + 3 ≤ 200 := by omega
    rw [if_neg c1]
    exact second_part m dm k (by omega)
theorem law_rest (m : List Int) (dm : Drawn m) (ps : List S38) (hS : ∀ p ∈ ps, Small p) (h20 : ∀ p ∈ ps, p.f2.length ≤ 300) (k : Nat) (hk : m.length + 7010 < k) : laws_FnFrames.j0 k m ps (frI ps).1 (frI ps).2 false = some true := by
  obtain ⟨k, rfl⟩ : ∃ j, k = j + 1 := ⟨k - 1, by omega⟩
  rw [laws_FnFrames.j0, if_neg Bool.false_ne_true]
  by_cases h : ps.all gd = true ∧ ps.length ≤ 10 ∧ (catL ps).length ≤ 200
  · have e : frI ps = (strOfNums (catL ps), true) := by
      unfold frI
      rw [if_pos h]
    have hgd : ∀ p ∈ ps, gd p = true ∧ Small p := fun p hp => ⟨List.all_eq_true.1 h.1 p hp, hS p hp⟩
    have hsame : ∀ k, 200 < k → laws_sameParts.f k ps ps = some true := fun k hk => sameP ps k (by omega) (fun x hx => by have := (hgd x hx).2.2; have := (gd_in _ _ _ (hgd x hx).2.1 (hgd x hx).2.2 (hgd x hx).1).2.1.2; omega) (by omega)
    rw [e]
    dsimp only
    rw [if_pos rfl]
    refine Option.bind_eq_some_iff.2 ⟨_, whole_read ps hgd h.2.1 h.2.2 k (by omega), ?_⟩
    dsimp only
    rw [if_pos rfl, if_pos rfl, if_pos rfl]
    exact Option.bind_eq_some_iff.2 ⟨_, hsame k (by omega), first_part m dm ps hgd h.2.1 h.2.2 hsame k (by omega)⟩
  · have e : frI ps = (⟨#[]⟩, false) := by
      unfold frI
      rw [if_neg h]
    rw [e]
    dsimp only
    rw [if_neg Bool.false_ne_true]
    exact second_part m dm k (by omega)
theorem FnFrames : laws_FnFrames.PureS := by
  intro l m ⟨hl, hl2⟩ ⟨hm, hm2⟩
  have u8 (x : Int) (h : (Lit.int .u8 x).wf = true) : 0 ≤ x ∧ x ≤ 255 := by
    simp [Lit.wf, IntKind.min, IntKind.max, IntKind.signed, IntKind.bits] at h
    omega
  have dl : Drawn l := ⟨fun x hx => u8 x (hl2 x hx), by omega⟩
  have dm : Drawn m := ⟨fun x hx => u8 x (hm2 x hx), by omega⟩
  clear hl hl2 hm hm2 u8
  obtain ⟨K, hK⟩ : ∃ K, K = m.length + 8000 := ⟨_, rfl⟩
  refine ⟨K, ?_⟩
  unfold laws_FnFrames.f
  by_cases h0 : wrap64 ((l.length : Int) + (m.length : Int)) > 1048576
  · rw [if_pos h0]
  rw [if_neg h0]
  clear h0
  obtain ⟨ps, p1, q1, e1, hn, hP, hp1⟩ := draw_parts l dl
  have hD : spec_DrawFrameText.f K l = some ps := by
    unfold spec_DrawFrameText.f
    rw [e1 _ (by omega)]
    rfl
  have hS := small_of ps hP
  obtain ⟨f1, f2⟩ := frame_is ps K (by omega) hS (by omega)
  refine Option.bind_eq_some_iff.2 ⟨ps, hD, Option.bind_eq_some_iff.2 ⟨_, f2, Option.bind_eq_some_iff.2 ⟨_, f1, ?_⟩⟩⟩
  rw [bne_self_eq_false, if_neg Bool.false_ne_true, bne_self_eq_false]
  exact law_rest m dm ps hS (fun p hp => (hS p hp).2) K (by omega)

end Go.Proofs.Ytajfpfmbmkmafaa.Pure
