/- FnNums answers true for all drawn parts. No condition beyond the row's own bounds. -/
import Derived.Test.YtajfpfmbmkmafaaSFnNums
namespace Go.Proofs.Ytajfpfmbmkmafaa.Pure
open Go.RowKit Go.Proofs.Ytajfpfmbmkmafaa.PFnNums Go.Proofs.YtajfpfmbmkmafaaW.PrintWords Go.Proofs.YtajfpfmbmkmafaaW.PrintLast
set_option linter.unusedVariables false
set_option linter.unusedSimpArgs false

-- w64
theorem w64 {x : Int} (h0 : -9223372036854775808 ≤ x) (h1 : x ≤ 9223372036854775807) : wrap64 x = x := by
  unfold wrap64
  omega
theorem tm {x y : Int} (h0 : 0 ≤ x) : Int.tmod x y = x % y := Int.tmod_eq_emod_of_nonneg h0
theorem wf64 {x : Int} (h : (Lit.int .i64 x).wf = true) : -9223372036854775808 ≤ x ∧ x ≤ 9223372036854775807 := by
  simp [Lit.wf, IntKind.min, IntKind.max, IntKind.signed, IntKind.bits] at h
  omega

-- inrange(spec_l1In)
theorem spec_l1In_eq (a lo hi : Int) : spec_l1In.f a lo hi = some (decide (lo ≤ a ∧ a ≤ hi)) := by
  unfold spec_l1In.f
  by_cases h : lo ≤ a
  · rw [if_pos (show a ≥ lo from h)]
    simp [h]
  · rw [if_neg (show ¬ a ≥ lo from h)]
    simp [h]

-- allin(spec_l1All,spec_l1In)
theorem spec_l1All_l (lo hi : Int) (l : List Int) (hn : l.length ≤ 4611686018427387904) (d : Nat) : ∀ (k i : Nat), i + d = l.length → d < k →
    spec_l1All.l0 k lo hi l l.length i = some ((l.drop i).all fun x => decide (lo ≤ x ∧ x ≤ hi)) := by
  induction d with
  | zero =>
    intro k i h hk
    obtain ⟨k, rfl⟩ : ∃ m, k = m + 1 := ⟨k - 1, by omega⟩
    simp only [spec_l1All.l0]
    rw [if_neg (by omega), List.drop_of_length_le (by omega)]
    rfl
  | succ d ih =>
    intro k i h hk
    obtain ⟨k, rfl⟩ : ∃ m, k = m + 1 := ⟨k - 1, by omega⟩
    have h1 := ih k (i + 1) (by omega) (by omega)
    have ea : l.drop i = rd l i :: l.drop (i + 1) := by
      unfold rd
      rw [Int.toNat_natCast, List.getD_eq_getElem?_getD, List.getElem?_eq_getElem (by omega)]
      exact List.drop_eq_getElem_cons (by omega)
    simp only [spec_l1All.l0]
    rw [if_pos (by omega), if_pos (by omega), if_pos (by omega), spec_l1In_eq, ea, List.all_cons]
    simp only [Option.bind_some]
    by_cases e : lo ≤ rd l i ∧ rd l i ≤ hi
    · rw [decide_eq_true e]
      simp only [if_true, Bool.true_and]
      rw [w64 (by omega) (by omega), show ((i : Int) + 1) = ((i + 1 : Nat) : Int) by omega]
      exact h1
    · rw [decide_eq_false e]
      simp
theorem spec_l1All_eq (l : List Int) (lo hi : Int) (k : Nat) (hn : l.length ≤ 4611686018427387904) (hk : l.length < k) : spec_l1All.f k l lo hi = some (l.all fun x => decide (lo ≤ x ∧ x ≤ hi)) := by
  have h := spec_l1All_l lo hi l hn l.length k 0 (by omega) hk
  unfold spec_l1All.f
  simpa using h

-- inrange(impl_in)
theorem impl_in_eq (a lo hi : Int) : impl_in.f a lo hi = some (decide (lo ≤ a ∧ a ≤ hi)) := by
  unfold impl_in.f
  by_cases h : lo ≤ a
  · rw [if_pos (show a ≥ lo from h)]
    simp [h]
  · rw [if_neg (show ¬ a ≥ lo from h)]
    simp [h]

-- allin(impl_allIn,impl_in)
theorem impl_allIn_l (lo hi : Int) (l : List Int) (hn : l.length ≤ 4611686018427387904) (d : Nat) : ∀ (k i : Nat), i + d = l.length → d < k →
    impl_allIn.l0 k lo hi l l.length i = some ((l.drop i).all fun x => decide (lo ≤ x ∧ x ≤ hi)) := by
  induction d with
  | zero =>
    intro k i h hk
    obtain ⟨k, rfl⟩ : ∃ m, k = m + 1 := ⟨k - 1, by omega⟩
    simp only [impl_allIn.l0]
    rw [if_neg (by omega), List.drop_of_length_le (by omega)]
    rfl
  | succ d ih =>
    intro k i h hk
    obtain ⟨k, rfl⟩ : ∃ m, k = m + 1 := ⟨k - 1, by omega⟩
    have h1 := ih k (i + 1) (by omega) (by omega)
    have ea : l.drop i = rd l i :: l.drop (i + 1) := by
      unfold rd
      rw [Int.toNat_natCast, List.getD_eq_getElem?_getD, List.getElem?_eq_getElem (by omega)]
      exact List.drop_eq_getElem_cons (by omega)
    simp only [impl_allIn.l0]
    rw [if_pos (by omega), if_pos (by omega), if_pos (by omega), impl_in_eq, ea, List.all_cons]
    simp only [Option.bind_some]
    by_cases e : lo ≤ rd l i ∧ rd l i ≤ hi
    · rw [decide_eq_true e]
      simp only [if_true, Bool.true_and]
      rw [w64 (by omega) (by omega), show ((i : Int) + 1) = ((i + 1 : Nat) : Int) by omega]
      exact h1
    · rw [decide_eq_false e]
      simp
theorem impl_allIn_eq (l : List Int) (lo hi : Int) (k : Nat) (hn : l.length ≤ 4611686018427387904) (hk : l.length < k) : impl_allIn.f k l lo hi = some (l.all fun x => decide (lo ≤ x ∧ x ≤ hi)) := by
  have h := impl_allIn_l lo hi l hn l.length k 0 (by omega) hk
  unfold impl_allIn.f
  simpa using h

-- two
/-- Numbers as bytes, two each. -/
def two (l : List Int) : List Int := l.flatMap fun x => [x / 256 % 256, x % 256]
theorem two_len (l : List Int) : (two l).length = 2 * l.length := by
  unfold two
  induction l with
  | nil => rfl
  | cons a l ih => rw [List.flatMap_cons, List.length_append, ih]; simp; omega
theorem two_snoc (l : List Int) (x : Int) : two (l ++ [x]) = two l ++ [x / 256 % 256, x % 256] := by simp [two]

-- puts(spec_l2Put)
theorem spec_l2Put_l (l : List Int) (hn : l.length ≤ 1000000) (d : Nat) : ∀ (k i : Nat), i + d = l.length → d < k →
    spec_l2Put.l0 k (two (l.take i)) l l.length i = some (strOfNums (two l)) := by
  induction d with
  | zero =>
    intro k i h hk
    obtain ⟨k, rfl⟩ : ∃ m, k = m + 1 := ⟨k - 1, by omega⟩
    simp only [spec_l2Put.l0]
    rw [if_neg (by omega), List.take_of_length_le (by omega)]
  | succ d ih =>
    intro k i h hk
    obtain ⟨k, rfl⟩ : ∃ m, k = m + 1 := ⟨k - 1, by omega⟩
    have h1 := ih k (i + 1) (by omega) (by omega)
    have ea : l.take (i + 1) = l.take i ++ [rd l i] := by
      unfold rd
      rw [Int.toNat_natCast, List.getD_eq_getElem?_getD, List.getElem?_eq_getElem (by omega)]
      exact List.take_succ_eq_append_getElem (by omega)
    have hl := two_len (l.take i)
    have hl2 : (l.take i).length ≤ l.length := by rw [List.length_take]; omega
    simp only [spec_l2Put.l0]
    rw [if_pos (by omega), if_pos (by omega), if_pos (by omega)]
    simp only [Option.bind_some, List.length_cons, List.length_nil]
    rw [if_pos (by omega), ← two_snoc, ← ea, w64 (by omega) (by omega), show ((i : Int) + 1) = ((i + 1 : Nat) : Int) by omega]
    exact h1
theorem spec_l2Put_eq (l : List Int) (k : Nat) (hn : l.length ≤ 1000000) (hk : l.length < k) : spec_l2Put.f k l = some (strOfNums (two l)) := by
  have h := spec_l2Put_l l hn l.length k 0 (by omega) hk
  unfold spec_l2Put.f
  simpa [two] using h

-- puts(impl_numText)
theorem impl_numText_l (l : List Int) (hn : l.length ≤ 1000000) (d : Nat) : ∀ (k i : Nat), i + d = l.length → d < k →
    impl_numText.l0 k (two (l.take i)) l l.length i = some (strOfNums (two l)) := by
  induction d with
  | zero =>
    intro k i h hk
    obtain ⟨k, rfl⟩ : ∃ m, k = m + 1 := ⟨k - 1, by omega⟩
    simp only [impl_numText.l0]
    rw [if_neg (by omega), List.take_of_length_le (by omega)]
  | succ d ih =>
    intro k i h hk
    obtain ⟨k, rfl⟩ : ∃ m, k = m + 1 := ⟨k - 1, by omega⟩
    have h1 := ih k (i + 1) (by omega) (by omega)
    have ea : l.take (i + 1) = l.take i ++ [rd l i] := by
      unfold rd
      rw [Int.toNat_natCast, List.getD_eq_getElem?_getD, List.getElem?_eq_getElem (by omega)]
      exact List.take_succ_eq_append_getElem (by omega)
    have hl := two_len (l.take i)
    have hl2 : (l.take i).length ≤ l.length := by rw [List.length_take]; omega
    simp only [impl_numText.l0]
    rw [if_pos (by omega), if_pos (by omega), if_pos (by omega)]
    simp only [Option.bind_some, List.length_cons, List.length_nil]
    rw [if_pos (by omega), ← two_snoc, ← ea, w64 (by omega) (by omega), show ((i : Int) + 1) = ((i + 1 : Nat) : Int) by omega]
    exact h1
theorem impl_numText_eq (l : List Int) (k : Nat) (hn : l.length ≤ 1000000) (hk : l.length < k) : impl_numText.f k l = some (strOfNums (two l)) := by
  have h := impl_numText_l l hn l.length k 0 (by omega) hk
  unfold impl_numText.f
  simpa [two] using h

-- bits16
theorem wraps_i64 (n : Int) (h₀ : 0 ≤ n) (h₁ : n < 2 ^ 20) : IntKind.i64.wrap n = n := by
  have h : n < 1048576 := h₁
  rw [IntKind.wrap_i64]
  omega
/-- Two bytes beside each other: 'or' of them is their sum. -/
theorem or16 (x y : Int) (hx : 0 ≤ x ∧ x ≤ 255) (hy : 0 ≤ y ∧ y ≤ 255) : Go.bits .or .i64 (x * 256) y = x * 256 + y := by
  have e8 : (2 : Int) ^ 8 = 256 := rfl
  have e20 : (2 : Int) ^ 20 = 1048576 := rfl
  exact bits_join .i64 20 (by decide) wraps_i64 8 (x * 256) y (by omega) (by rw [e8]; omega) (by rw [e20]; omega) (by omega) (by rw [e8]; omega) (by rw [e20]; omega)

-- tk
/-- The numbers of a text, two bytes each, from a place on. -/
def tk (s : ByteArray) (i : Nat) : Nat → List Int
  | 0 => []
  | n + 1 => (bt s i * 256 + bt s (i + 1 : Nat)) :: tk s (i + 2) n
theorem tk_snoc (s : ByteArray) : ∀ (n i : Nat), tk s i (n + 1) = tk s i n ++ [bt s (i + 2 * n : Nat) * 256 + bt s (i + 2 * n + 1 : Nat)]
  | 0, i => by simp [tk]
  | n + 1, i => by
    have h := tk_snoc s n (i + 2)
    rw [tk, h]
    simp only [tk, List.cons_append]
    rw [show i + 2 + 2 * n = i + 2 * (n + 1) by omega]
theorem tk_len (s : ByteArray) : ∀ (n i : Nat), (tk s i n).length = n
  | 0, i => rfl
  | n + 1, i => by simp [tk, tk_len s n]

-- spectake
theorem spec_take_l (s : ByteArray) (hs : s.size ≤ 40) (d : Nat) : ∀ (k n : Nat), 2 * n + 2 * d = s.size → d < k →
    spec_l2Take.l0 k s (tk s 0 n) (2 * n : Nat) = some (tk s 0 (s.size / 2)) := by
  induction d with
  | zero =>
    intro k n h hk
    obtain ⟨k, rfl⟩ : ∃ m, k = m + 1 := ⟨k - 1, by omega⟩
    simp only [spec_l2Take.l0]
    rw [w64 (by omega) (by omega), if_neg (by omega)]
    obtain rfl : n = s.size / 2 := by omega
    rfl
  | succ d ih =>
    intro k n h hk
    obtain ⟨k, rfl⟩ : ∃ m, k = m + 1 := ⟨k - 1, by omega⟩
    have h1 := ih k (n + 1) (by omega) (by omega)
    have b0 := bt_range s (2 * n : Nat)
    have b1 := bt_range s (2 * n + 1 : Nat)
    simp only [spec_l2Take.l0]
    rw [w64 (x := ((2 * n : Nat) : Int) + 1) (by omega) (by omega), if_pos (by omega), if_pos (by omega), if_pos (by omega), if_pos (by omega), if_pos (by rw [tk_len]; omega)]
    rw [show ((2 * n : Nat) : Int) + 1 = ((2 * n + 1 : Nat) : Int) by omega, w64 (x := bt s (2 * n : Nat)) (by omega) (by omega), w64 (x := bt s (2 * n : Nat) * 256) (by omega) (by omega), w64 (x := bt s (2 * n + 1 : Nat)) (by omega) (by omega),
      w64 (x := bt s (2 * n : Nat) * 256 + bt s (2 * n + 1 : Nat)) (by omega) (by omega), w64 (by omega) (by omega)]
    have e := tk_snoc s n 0
    rw [Nat.zero_add] at e
    rw [← e, show ((2 * n : Nat) : Int) + 2 = ((2 * (n + 1) : Nat) : Int) by omega]
    exact h1
theorem spec_take (s : ByteArray) (hs : s.size ≤ 40) (he : s.size % 2 = 0) (k : Nat) (hk : s.size < k) : spec_l2Take.f k s = some (tk s 0 (s.size / 2)) := by
  have h := spec_take_l s hs (s.size / 2) k 0 (by omega) (by omega)
  unfold spec_l2Take.f
  simpa [tk] using h
/-- The numbers of a text, if it is one of numbers. -/
theorem spec_TakeNums_f (s : ByteArray) (k : Nat) (hk : s.size < k) : spec_TakeNums.f k s = some (if s.size ≤ 40 ∧ s.size % 2 = 0 then (tk s 0 (s.size / 2), true) else ([], false)) := by
  unfold spec_TakeNums.f
  by_cases h : s.size ≤ 40
  · rw [if_neg (by omega)]
    by_cases h2 : s.size % 2 = 0
    · rw [if_pos (by omega), spec_take s h h2 k hk, if_pos ⟨h, h2⟩]
      rfl
    · rw [if_neg (by omega), if_neg (fun e => h2 e.2)]
  · rw [if_pos (by omega), if_neg (fun e => h e.1)]

-- impltake
theorem impl_take_l (s : ByteArray) (hs : s.size ≤ 40) (d : Nat) : ∀ (k n : Nat), 2 * n + 2 * d = s.size → d < k →
    impl_TakeNums.l0 k s (tk s 0 n) (2 * n : Nat) = some (tk s 0 (s.size / 2), true) := by
  induction d with
  | zero =>
    intro k n h hk
    obtain ⟨k, rfl⟩ : ∃ m, k = m + 1 := ⟨k - 1, by omega⟩
    simp only [impl_TakeNums.l0]
    rw [if_neg (by omega)]
    obtain rfl : n = s.size / 2 := by omega
    rfl
  | succ d ih =>
    intro k n h hk
    obtain ⟨k, rfl⟩ : ∃ m, k = m + 1 := ⟨k - 1, by omega⟩
    have h1 := ih k (n + 1) (by omega) (by omega)
    have b0 := bt_range s (2 * n : Nat)
    have b1 := bt_range s (2 * n + 1 : Nat)
    simp only [impl_TakeNums.l0]
    rw [w64 (x := ((2 * n : Nat) : Int) + 1) (by omega) (by omega), if_pos (by omega), if_pos (by omega), if_pos (by omega), if_pos (by omega), if_pos (by rw [tk_len]; omega)]
    rw [show ((2 * n : Nat) : Int) + 1 = ((2 * n + 1 : Nat) : Int) by omega, w64 (x := bt s (2 * n : Nat)) (by omega) (by omega), w64 (x := bt s (2 * n : Nat) * 256) (by omega) (by omega), w64 (x := bt s (2 * n + 1 : Nat)) (by omega) (by omega),
      or16 _ _ b0 b1, w64 (by omega) (by omega)]
    have e := tk_snoc s n 0
    rw [Nat.zero_add] at e
    rw [← e, show ((2 * n : Nat) : Int) + 2 = ((2 * (n + 1) : Nat) : Int) by omega]
    exact h1
theorem impl_TakeNums_f (s : ByteArray) (k : Nat) (hk : s.size + 1 < k) : impl_TakeNums.f k s = some (if s.size ≤ 40 ∧ s.size % 2 = 0 then (tk s 0 (s.size / 2), true) else ([], false)) := by
  obtain ⟨k, rfl⟩ : ∃ m, k = m + 1 := ⟨k - 1, by omega⟩
  unfold impl_TakeNums.f
  by_cases h : s.size ≤ 40
  · rw [if_neg (by omega)]
    simp only [impl_TakeNums.j0]
    by_cases h2 : s.size % 2 = 0
    · rw [if_neg (by simp; omega), if_pos ⟨h, h2⟩]
      have h := impl_take_l s h (s.size / 2) k 0 (by omega) (by omega)
      simpa [tk] using h
    · rw [if_pos (by simp; omega), if_neg (fun e => h2 e.2)]
  · rw [if_pos (by omega), if_neg (fun e => h e.1)]
    simp only [impl_TakeNums.j0]
    simp

-- goodpart
theorem noBytes {s : ByteArray} (h : s.toList = ([] : List UInt8)) : s.size = 0 := by
  rw [ByteArray.toList_eq] at h
  have h2 := congrArg List.length h
  simpa using h2
theorem spec_rise_l (c : List Int) (lo hi : Int) (hn : c.length ≤ 4611686018427387904) (d : Nat) : ∀ (k i : Nat), i + d = c.length → d < k →
    ∃ b, spec_l1Rising.l0 k c lo hi c c.length i = some b ∧ (b = true ↔ ∀ j : Nat, i ≤ j → j < c.length → (lo ≤ rd c (j : Int) ∧ rd c (j : Int) ≤ hi) ∧ (0 < j → rd c ((j : Int) - 1) < rd c (j : Int))) := by
  induction d with
  | zero =>
    intro k i h hk
    obtain ⟨k, rfl⟩ : ∃ m, k = m + 1 := ⟨k - 1, by omega⟩
    simp only [spec_l1Rising.l0]
    rw [if_neg (by omega)]
    exact ⟨true, rfl, fun _ j h1 h2 => absurd h2 (by omega), fun _ => rfl⟩
  | succ d ih =>
    intro k i h hk
    obtain ⟨k, rfl⟩ : ∃ m, k = m + 1 := ⟨k - 1, by omega⟩
    obtain ⟨b, e, hb⟩ := ih k (i + 1) (by omega) (by omega)
    simp only [spec_l1Rising.l0, spec_l1In_eq]
    rw [if_pos (by omega), if_pos (by omega), if_pos (by omega)]
    simp only [Option.bind_some]
    rw [w64 (x := (i : Int) + 1) (by omega) (by omega), w64 (x := (i : Int) - 1) (by omega) (by omega), show ((i : Int) + 1) = ((i + 1 : Nat) : Int) by omega, e]
    by_cases h1 : lo ≤ rd c (i : Int) ∧ rd c (i : Int) ≤ hi
    · rw [if_pos (decide_eq_true h1)]
      by_cases h2 : (i : Int) > 0
      · rw [if_pos h2, if_pos (by omega), if_pos (by omega)]
        by_cases h3 : rd c ((i : Int) - 1) ≥ rd c (i : Int)
        · rw [if_pos h3]
          exact ⟨false, rfl, fun h => absurd h Bool.false_ne_true, fun h => absurd ((h i (Nat.le_refl _) (by omega)).2 (by omega)) (by omega)⟩
        · rw [if_neg h3]
          refine ⟨b, rfl, hb.trans ⟨fun h j g1 g2 => ?_, fun h j g1 g2 => h j (by omega) g2⟩⟩
          by_cases g : j = i
          · subst g
            exact ⟨h1, fun _ => by omega⟩
          · exact h j (by omega) g2
      · rw [if_neg h2]
        refine ⟨b, rfl, hb.trans ⟨fun h j g1 g2 => ?_, fun h j g1 g2 => h j (by omega) g2⟩⟩
        by_cases g : j = i
        · subst g
          exact ⟨h1, fun _ => by omega⟩
        · exact h j (by omega) g2
    · rw [decide_eq_false h1, if_neg Bool.false_ne_true]
      exact ⟨false, rfl, fun h => absurd h Bool.false_ne_true, fun h => absurd ((h i (Nat.le_refl _) (by omega)).1) h1⟩
theorem impl_rise_l (c : List Int) (hn : c.length ≤ 4611686018427387904) (d : Nat) : ∀ (k i : Nat), c.length ≤ i + d → 1 ≤ i → i ≤ c.length + 1 → d < k →
    ∃ b, impl_rising.l0 k c i = some b ∧ (b = true ↔ ∀ j : Nat, i ≤ j → j < c.length → rd c ((j : Int) - 1) < rd c (j : Int)) := by
  induction d with
  | zero =>
    intro k i h hi hi2 hk
    obtain ⟨k, rfl⟩ : ∃ m, k = m + 1 := ⟨k - 1, by omega⟩
    simp only [impl_rising.l0]
    rw [if_neg (by omega)]
    exact ⟨true, rfl, fun _ j h1 h2 => absurd h2 (by omega), fun _ => rfl⟩
  | succ d ih =>
    intro k i h hi hi2 hk
    obtain ⟨k, rfl⟩ : ∃ m, k = m + 1 := ⟨k - 1, by omega⟩
    simp only [impl_rising.l0]
    by_cases h0 : (i : Int) < c.length
    · obtain ⟨b, e, hb⟩ := ih k (i + 1) (by omega) (by omega) (by omega) (by omega)
      rw [if_pos h0, w64 (x := (i : Int) + 1) (by omega) (by omega), w64 (x := (i : Int) - 1) (by omega) (by omega), show ((i : Int) + 1) = ((i + 1 : Nat) : Int) by omega, e, if_pos (by omega), if_pos (by omega), if_pos (by omega)]
      by_cases h3 : rd c ((i : Int) - 1) ≥ rd c (i : Int)
      · rw [if_pos h3]
        exact ⟨false, rfl, fun h => absurd h Bool.false_ne_true, fun h => absurd ((h i (Nat.le_refl _) (by omega))) (by omega)⟩
      · rw [if_neg h3]
        refine ⟨b, rfl, hb.trans ⟨fun h j g1 g2 => ?_, fun h j g1 g2 => h j (by omega) g2⟩⟩
        by_cases g : j = i
        · subst g
          omega
        · exact h j (by omega) g2
    · rw [if_neg h0]
      exact ⟨true, rfl, fun _ j h1 h2 => absurd h2 (by omega), fun _ => rfl⟩
theorem both_rise (c : List Int) (k : Nat) (hn : c.length ≤ 4611686018427387904) (hk : c.length + 1 < k) :
    ∃ b, spec_l1Rising.f k c 0 65535 = some b ∧ ((impl_rising.f k c).bind fun t => if t = true then ((impl_allIn.f k c 0 65535).bind fun u => some u) else some false) = some b := by
  obtain ⟨b, e, hb⟩ := spec_rise_l c 0 65535 hn c.length k 0 (by omega) (by omega)
  obtain ⟨b2, e2, hb2⟩ := impl_rise_l c hn c.length k 1 (by omega) (by omega) (by omega) (by omega)
  refine ⟨b, e, ?_⟩
  unfold impl_rising.f
  rw [show (1 : Int) = ((1 : Nat) : Int) by rfl, e2, impl_allIn_eq _ _ _ _ hn (by omega)]
  simp only [Option.bind_some]
  have ha : (c.all fun x => decide (0 ≤ x ∧ x ≤ 65535)) = true ↔ ∀ j : Nat, j < c.length → 0 ≤ rd c (j : Int) ∧ rd c (j : Int) ≤ 65535 := by
    rw [List.all_eq_true]
    constructor
    · intro h j hj
      have := h c[j] (List.getElem_mem hj)
      unfold rd
      rw [Int.toNat_natCast, List.getD_eq_getElem?_getD, List.getElem?_eq_getElem hj]
      simpa using this
    · intro h x hx
      obtain ⟨j, hj, rfl⟩ := List.mem_iff_getElem.1 hx
      have := h j hj
      unfold rd at this
      rw [Int.toNat_natCast, List.getD_eq_getElem?_getD, List.getElem?_eq_getElem hj] at this
      simpa using this
  by_cases h2 : b2 = true
  · rw [if_pos h2]
    congr 1
    rw [Bool.eq_iff_iff, ha, hb]
    rw [hb2] at h2
    exact ⟨fun h j _ hj => ⟨h j hj, fun h0 => h2 j (by omega) hj⟩, fun h j hj => (h j (by omega) hj).1⟩
  · rw [if_neg h2]
    congr 1
    symm
    rw [Bool.eq_false_iff]
    intro h
    rw [hb] at h
    rw [hb2] at h2
    exact h2 fun j h1 hj => (h j (by omega) hj).2 (by omega)
theorem both_name_l (a : Int) (s : ByteArray) (c : List Int) (hn : s.size ≤ 4611686018427387904) (d : Nat) : ∀ (k i : Nat), i + d = s.size → d < k →
    ∃ b, spec_GoodPart.l0 k i a s c = some b ∧ impl_GoodPart.l0 k s.size i a s c = some b ∧ (b = true → s.size ≤ 20 ∧ c.length = 0) := by
  induction d with
  | zero =>
    intro k i h hk
    obtain ⟨k, rfl⟩ : ∃ m, k = m + 1 := ⟨k - 1, by omega⟩
    simp only [spec_GoodPart.l0, impl_GoodPart.l0, spec_l1In_eq, impl_in_eq]
    rw [if_neg (by omega), if_neg (by omega)]
    simp only [Option.bind_some]
    by_cases h1 : (1 : Int) ≤ s.size ∧ (s.size : Int) ≤ 20
    · rw [decide_eq_true h1]
      simp only [if_true]
      exact ⟨_, rfl, rfl, fun h => ⟨by omega, by have := of_decide_eq_true h; simpa using h⟩⟩
    · rw [decide_eq_false h1]
      simp only [Bool.false_eq_true, if_false]
      exact ⟨_, rfl, rfl, fun h => absurd h Bool.false_ne_true⟩
  | succ d ih =>
    intro k i h hk
    obtain ⟨k, rfl⟩ : ∃ m, k = m + 1 := ⟨k - 1, by omega⟩
    obtain ⟨b, e, e2, hb⟩ := ih k (i + 1) (by omega) (by omega)
    simp only [spec_GoodPart.l0, impl_GoodPart.l0]
    have g1 : (i : Int) < s.size := by omega
    have g2 : (0 : Int) ≤ i := by omega
    rw [if_pos g1, if_pos g2, if_pos g1, if_pos g2, if_pos g1, w64 (x := (i : Int) + 1) (by omega) (by omega), show ((i : Int) + 1) = ((i + 1 : Nat) : Int) by omega, e, e2]
    by_cases h1 : bt s (i : Int) < 97
    · rw [if_pos h1]
      exact ⟨_, rfl, rfl, fun h => absurd h Bool.false_ne_true⟩
    · rw [if_neg h1]
      by_cases h2 : bt s (i : Int) > 122
      · rw [if_pos h2]
        exact ⟨_, rfl, rfl, fun h => absurd h Bool.false_ne_true⟩
      · rw [if_neg h2]
        exact ⟨b, rfl, rfl, hb⟩
theorem both_j1 (x a : Int) (t : Bool) (s : ByteArray) (c : List Int) (k : Nat) (hn : c.length ≤ 4611686018427387904) (hk : c.length + 2 < k) :
    ∃ b, spec_GoodPart.j1 k x t a s c = some b ∧ impl_GoodPart.j1 k x t a s c = some b ∧ (b = true → s.size ≤ 20 ∧ c.length ≤ 20) := by
  obtain ⟨k, rfl⟩ : ∃ m, k = m + 1 := ⟨k - 1, by omega⟩
  obtain ⟨b, e1, e2⟩ := both_rise c k hn (by omega)
  simp only [spec_GoodPart.j1, impl_GoodPart.j1]
  have no : ∃ b, (some false : Option Bool) = some b ∧ (some false : Option Bool) = some b ∧ (b = true → s.size ≤ 20 ∧ c.length ≤ 20) := ⟨_, rfl, rfl, fun h => absurd h Bool.false_ne_true⟩
  by_cases ht : t = true
  · rw [if_pos ht, if_pos ht]
    by_cases h1 : s.toList = ([] : List UInt8)
    · rw [if_pos h1, if_pos h1]
      have := noBytes h1
      by_cases h2 : (c.length : Int) ≤ 20
      · rw [if_pos h2, if_pos h2, e1, e2]
        exact ⟨b, rfl, rfl, fun _ => by omega⟩
      · rw [if_neg h2, if_neg h2]
        exact no
    · rw [if_neg h1, if_neg h1]
      exact no
  · rw [if_neg ht, if_neg ht]
    by_cases hx : x = 4
    · rw [if_pos hx, if_pos hx]
      by_cases h1 : s.toList = ([] : List UInt8)
      · rw [if_pos h1, if_pos h1]
        have := noBytes h1
        by_cases h2 : (c.length : Int) = 1
        · rw [if_pos h2, if_pos h2, if_pos (by omega), if_pos (by omega), spec_l1In_eq, impl_in_eq]
          exact ⟨_, rfl, rfl, fun _ => by omega⟩
        · rw [if_neg h2, if_neg h2]
          exact no
      · rw [if_neg h1, if_neg h1]
        exact no
    · rw [if_neg hx, if_neg hx]
      exact no
theorem both_part (a : Int) (s : ByteArray) (c : List Int) (k : Nat) (hs : s.size ≤ 4611686018427387904) (hn : c.length ≤ 4611686018427387904) (hk : s.size + c.length + 2 < k) :
    ∃ b, spec_GoodPart.f k a s c = some b ∧ impl_GoodPart.f k a s c = some b ∧ (b = true → s.size ≤ 20 ∧ c.length ≤ 20) := by
  unfold spec_GoodPart.f impl_GoodPart.f
  by_cases h1 : a = 1
  · rw [if_pos h1, if_pos h1]
    obtain ⟨b, e1, e2, hb⟩ := both_name_l a s c hs s.size k 0 (by omega) (by omega)
    exact ⟨b, e1, e2, fun h => by have := hb h; omega⟩
  · rw [if_neg h1, if_neg h1]
    by_cases h2 : a = 2
    · rw [if_pos h2, if_pos h2]
      exact both_j1 _ _ _ _ _ _ hn (by omega)
    · rw [if_neg h2, if_neg h2]
      exact both_j1 _ _ _ _ _ _ hn (by omega)

-- strsize
theorem strSize (l : List Int) : (strOfNums l).size = l.length := by
  simp [strOfNums, ByteArray.size]

-- parttext
/-- The text of a part, by either writer. -/
theorem both_text (a : Int) (s : ByteArray) (c : List Int) (k : Nat) (hs : s.size ≤ 20) (hc : c.length ≤ 20) (hk : 20 < k) :
    ∃ r, spec_l2Text.f k a s c = some r ∧ impl_partText.f k a s c = some r ∧ r.size ≤ 62 := by
  unfold spec_l2Text.f impl_partText.f
  rw [spec_l2Put_eq c k (by omega) (by omega), impl_numText_eq c k (by omega) (by omega)]
  have h2 : (strOfNums (two c)).size = 2 * c.length := by rw [strSize, two_len]
  simp only [Option.bind_some]
  rw [if_pos (by omega)]
  have h3 : (s ++ strOfNums (two c)).size = s.size + 2 * c.length := by rw [ByteArray.size_append, h2]
  generalize hz : s ++ strOfNums (two c) = z
  rw [hz] at h3
  have h4 : (strOfNums [a % 256, (z.size : Int) % 256]).size = 2 := by rw [strSize]; rfl
  rw [if_pos (by omega)]
  refine ⟨_, rfl, rfl, ?_⟩
  rw [ByteArray.size_append, h4]
  omega

-- rdt(38)
theorem rd_T38_at (l : List S38) (i : Nat) (h : i < l.length) : rd_T38 l i = l[i] := by
  simp [rd_T38, List.getD_eq_getElem?_getD, List.getElem?_eq_getElem h]

-- partsof
theorem drop_P (l : List S38) (i : Nat) (h : i < l.length) : l.drop i = rd_T38 l i :: l.drop (i + 1) := by
  rw [rd_T38_at l i h]
  exact List.drop_eq_getElem_cons h
def ofKind (a : Int) (l : List S38) : List S38 := l.filter fun x => x.f0 == a
def partsR (l : List S38) (a : Int) : List S38 × Bool := if l.length ≤ 10 then (ofKind a l, true) else ([], false)
theorem spec_parts_l (a : Int) (l : List S38) (hn : l.length ≤ 10) (hb : ∀ x ∈ l, x.f2.length ≤ 1048576) (d : Nat) : ∀ (k i : Nat) (out : List S38), i + d = l.length → out.length ≤ i → d < k → spec_PartsOf.l0 k a out l l.length i = some (out ++ ofKind a (l.drop i), true) := by
  induction d with
  | zero =>
    intro k i out h ho hk
    obtain ⟨k, rfl⟩ : ∃ m, k = m + 1 := ⟨k - 1, by omega⟩
    simp only [spec_PartsOf.l0]
    rw [if_neg (by omega), List.drop_of_length_le (by omega)]
    simp [ofKind]
  | succ d ih =>
    intro k i out h ho hk
    obtain ⟨k, rfl⟩ : ∃ m, k = m + 1 := ⟨k - 1, by omega⟩
    have hx : (rd_T38 l i).f2.length ≤ 1048576 := by rw [rd_T38_at l i (by omega)]; exact hb _ (List.getElem_mem _)
    have hw : wrap64 ((i : Int) + 1) = ((i + 1 : Nat) : Int) := by rw [w64 (by omega) (by omega)]; omega
    simp only [spec_PartsOf.l0]
    rw [if_pos (by omega), if_pos (by omega), if_pos (by omega), drop_P l i (by omega), hw]
    generalize rd_T38 l i = x at hx
    by_cases e : x.f0 = a
    · unfold spec_l2Own.f
      rw [if_pos e]
      simp only [Option.bind_some, List.nil_append, List.length_nil]
      rw [if_pos (by omega)]
      simp only [Option.bind_some]
      rw [if_pos (by omega), ih k (i + 1) _ (by omega) (by rw [List.length_append, List.length_singleton]; omega) (by omega)]
      rw [show ofKind a (x :: l.drop (i + 1)) = x :: ofKind a (l.drop (i + 1)) by simp [ofKind, e], List.append_assoc]
      rfl
    · rw [if_neg e, ih k (i + 1) out (by omega) (by omega) (by omega)]
      simp [ofKind, e]
theorem impl_parts_l (a : Int) (l : List S38) (hn : l.length ≤ 10) (hb : ∀ x ∈ l, x.f2.length ≤ 1048576) (d : Nat) : ∀ (k i : Nat) (out : List S38), i + d = l.length → out.length ≤ i → d < k → impl_PartsOf.l0 k a out l l.length i = some (out ++ ofKind a (l.drop i), true) := by
  induction d with
  | zero =>
    intro k i out h ho hk
    obtain ⟨k, rfl⟩ : ∃ m, k = m + 1 := ⟨k - 1, by omega⟩
    simp only [impl_PartsOf.l0]
    rw [if_neg (by omega), List.drop_of_length_le (by omega)]
    simp [ofKind]
  | succ d ih =>
    intro k i out h ho hk
    obtain ⟨k, rfl⟩ : ∃ m, k = m + 1 := ⟨k - 1, by omega⟩
    have hx : (rd_T38 l i).f2.length ≤ 1048576 := by rw [rd_T38_at l i (by omega)]; exact hb _ (List.getElem_mem _)
    have hw : wrap64 ((i : Int) + 1) = ((i + 1 : Nat) : Int) := by rw [w64 (by omega) (by omega)]; omega
    simp only [impl_PartsOf.l0]
    rw [if_pos (by omega), if_pos (by omega), if_pos (by omega), drop_P l i (by omega), hw]
    generalize rd_T38 l i = x at hx
    by_cases e : x.f0 = a
    · unfold slices_Clone_int_int.f
      rw [if_pos e, if_pos (by omega)]
      simp only [Option.bind_some]
      rw [if_pos (by omega), ih k (i + 1) _ (by omega) (by rw [List.length_append, List.length_singleton]; omega) (by omega)]
      rw [show ofKind a (x :: l.drop (i + 1)) = x :: ofKind a (l.drop (i + 1)) by simp [ofKind, e], List.append_assoc]
      rfl
    · rw [if_neg e, ih k (i + 1) out (by omega) (by omega) (by omega)]
      simp [ofKind, e]
theorem spec_PartsOf_f (l : List S38) (a : Int) (k : Nat) (hb : ∀ x ∈ l, x.f2.length ≤ 1048576) (hk : 10 < k) : spec_PartsOf.f k l a = some (partsR l a) := by
  unfold spec_PartsOf.f partsR
  by_cases h : l.length ≤ 10
  · rw [if_neg (by omega), if_pos h]
    have e := spec_parts_l a l h hb l.length k 0 [] (by omega) (Nat.le_refl _) (by omega)
    simpa using e
  · rw [if_pos (by omega), if_neg h]
theorem impl_PartsOf_f (l : List S38) (a : Int) (k : Nat) (hb : ∀ x ∈ l, x.f2.length ≤ 1048576) (hk : 10 < k) : impl_PartsOf.f k l a = some (partsR l a) := by
  unfold impl_PartsOf.f partsR
  by_cases h : l.length ≤ 10
  · rw [if_neg (by omega), if_pos h]
    have e := impl_parts_l a l h hb l.length k 0 [] (by omega) (Nat.le_refl _) (by omega)
    simpa using e
  · rw [if_pos (by omega), if_neg h]

-- dropi
theorem drop_i (l : List Int) (i : Nat) (h : i < l.length) : l.drop i = rd l i :: l.drop (i + 1) := by
  unfold rd
  rw [Int.toNat_natCast, List.getD_eq_getElem?_getD, List.getElem?_eq_getElem h]
  exact List.drop_eq_getElem_cons h
theorem rd_mem (l : List Int) (i : Nat) (h : i < l.length) : rd l i ∈ l := by
  unfold rd
  rw [Int.toNat_natCast, List.getD_eq_getElem?_getD, List.getElem?_eq_getElem h]
  exact List.getElem_mem h

-- draws
theorem wraps_u64 (n : Int) (h₀ : 0 ≤ n) (h₁ : n < 2 ^ 24) : IntKind.u64.wrap n = n := by
  have h : n < 16777216 := h₁
  rw [IntKind.wrap_u64]
  omega
theorem letterOf (y : Int) : 0 ≤ wrap64 (Go.bits .and .u64 (IntKind.u64.wrap y / 1099511627776) 255) ∧ wrap64 (Go.bits .and .u64 (IntKind.u64.wrap y / 1099511627776) 255) ≤ 255 := by
  have hw := IntKind.wrap_u64 y
  have e : Go.bits .and .u64 (IntKind.u64.wrap y / 1099511627776) 255 = (IntKind.u64.wrap y / 1099511627776) % 256 :=
    bits_mask .u64 24 (by decide) wraps_u64 8 (by decide) _ (by omega) (by show _ < (16777216 : Int); omega)
  rw [e, w64 (by omega) (by omega)]
  omega
/-- The bytes that a drawer reads. -/
def Drawn (l : List Int) : Prop := (∀ x ∈ l, 0 ≤ x ∧ x ≤ 255) ∧ l.length ≤ 1125899906842624
theorem draw_next (l : List Int) (hl : Drawn l) (p st : Int) (h0 : 0 ≤ p) (h1 : p ≤ 1125899906842624) : ∃ v q, spec_l1Cur_next.f l p st = some (v, p + 1, q) ∧ 0 ≤ v ∧ v ≤ 255 := by
  obtain ⟨hl, hn⟩ := hl
  unfold spec_l1Cur_next.f
  rw [w64 (x := p + 1) (by omega) (by omega)]
  by_cases h : p < (l.length : Int)
  · have hm := hl _ (rd_mem l p.toNat (by omega))
    rw [Int.toNat_of_nonneg h0] at hm
    rw [if_pos h, if_pos h0, if_pos (by omega), w64 (x := rd l p) (by omega) (by omega)]
    exact ⟨_, _, rfl, hm⟩
  · rw [if_neg h, if_neg (by omega)]
    exact ⟨_, _, rfl, letterOf _⟩
theorem draw_pick (l : List Int) (hl : Drawn l) (p st n : Int) (h0 : 0 ≤ p) (h1 : p ≤ 1000000000000) (hn : 1 ≤ n) : ∃ v p' q, spec_l1Cur_pick.f l p st n = some (v, p', q) ∧ (0 ≤ v ∧ v < n) ∧ p ≤ p' ∧ p' ≤ p + 2 := by
  unfold spec_l1Cur_pick.f
  by_cases h : n ≤ 1
  · rw [if_pos h]
    exact ⟨_, _, _, rfl, by omega, by omega, by omega⟩
  · obtain ⟨a, q, e, ha⟩ := draw_next l hl p st h0 (by omega)
    rw [if_neg h, e]
    simp only [Option.bind_some]
    by_cases h2 : n > 200
    · obtain ⟨b, q2, e2, hb⟩ := draw_next l hl (p + 1) q (by omega) (by omega)
      rw [if_pos h2, e2]
      simp only [Option.bind_some]
      rw [if_neg (by omega), w64 (x := a * 256) (by omega) (by omega), w64 (by omega) (by omega), tm (by omega)]
      exact ⟨_, _, _, rfl, ⟨Int.emod_nonneg _ (by omega), Int.emod_lt_of_pos _ (by omega)⟩, by omega, by omega⟩
    · rw [if_neg h2, if_neg (by omega), tm (by omega)]
      exact ⟨_, _, _, rfl, ⟨Int.emod_nonneg _ (by omega), Int.emod_lt_of_pos _ (by omega)⟩, by omega, by omega⟩
theorem draw_among (l : List Int) (hl : Drawn l) (p st : Int) (m : List Int) (h0 : 0 ≤ p) (h1 : p ≤ 1000000000000) (hm : 1 ≤ m.length) : ∃ v p' q, spec_l1Cur_among.f l p st m = some (v, p', q) ∧ v ∈ m ∧ p ≤ p' ∧ p' ≤ p + 2 := by
  obtain ⟨v, p', q, e, hv, hp⟩ := draw_pick l hl p st (m.length : Int) h0 h1 (by omega)
  unfold spec_l1Cur_among.f
  rw [e]
  simp only [Option.bind_some]
  rw [if_pos hv.1, if_pos hv.2]
  refine ⟨_, _, _, rfl, ?_, hp⟩
  have := rd_mem m v.toNat (by omega)
  rwa [Int.toNat_of_nonneg hv.1] at this

-- drawone
theorem draw_one (l : List Int) (hl : Drawn l) (p st n : Int) (h0 : 0 ≤ p) (h1 : p ≤ 1000000000000) (hn : 1 ≤ n) : ∃ b p' q, spec_l1Cur_one.f l p st n = some (b, p', q) ∧ p ≤ p' ∧ p' ≤ p + 2 := by
  obtain ⟨v, p', q, e, _, hp⟩ := draw_pick l hl p st n h0 h1 hn
  unfold spec_l1Cur_one.f
  rw [e]
  exact ⟨_, _, _, rfl, hp⟩

-- upfrom
/-- n, n + 1, .., in so many places. -/
def upFrom (m : Int) (n : Nat) : List Int := (List.range n).map fun i : Nat => m + i
theorem upFrom_len (m : Int) (n : Nat) : (upFrom m n).length = n := by simp [upFrom]
theorem rd_nat (l : List Int) (i : Nat) : rd l i = l.getD i 0 := by simp [rd]
theorem rd_upFrom (m : Int) (n i : Nat) (h : i < n) : rd (upFrom m n) i = m + i := by
  simp [rd, upFrom, h]

-- putany
theorem put_any : ∀ (l a : List Int) (n : Int) (k : Nat), (a ++ l).length ≤ 1000000 → l.length < k → ∃ r, spec_l1Put.l0 k (a ++ l) n a.length = some r ∧ r.length ≤ (a ++ l).length + 1 ∧ ∀ y ∈ r, y ∈ a ++ l ∨ y = n
  | [], a, n, k, hl, hk => by
    obtain ⟨k, rfl⟩ : ∃ m, k = m + 1 := ⟨k - 1, by omega⟩
    rw [List.append_nil] at hl ⊢
    refine ⟨a ++ [n], ?_, by rw [List.length_append, List.length_singleton]; omega, fun y hy => ?_⟩
    · simp only [spec_l1Put.l0]
      rw [if_neg (by omega)]
      simp only [Option.bind_some, List.nil_append, List.length_nil]
      rw [if_pos (by omega), if_pos (by omega), Int.toNat_natCast, List.take_length, List.drop_length]
      rw [if_pos (by omega), if_pos (by omega)]
      rw [if_pos (by rw [List.length_append, List.length_singleton, List.length_nil]; omega)]
      simp
    · rcases List.mem_append.1 hy with h | h
      · exact .inl h
      · exact .inr (List.mem_singleton.1 h)
  | x :: l, a, n, k, hl, hk => by
    obtain ⟨k, rfl⟩ : ∃ m, k = m + 1 := ⟨k - 1, by omega⟩
    have hl2 := hl
    rw [List.length_append, List.length_cons] at hl2
    rw [List.length_cons] at hk
    have hr : rd (a ++ x :: l) (a.length : Int) = x := by simp [rd]
    rw [spec_l1Put.l0, if_pos (by rw [List.length_append, List.length_cons]; omega), if_pos (by omega), hr]
    by_cases h : x < n
    · obtain ⟨r, e, hs⟩ := put_any l (a ++ [x]) n k (by rw [List.append_assoc, List.singleton_append]; exact hl) (by omega)
      rw [List.append_assoc, List.singleton_append, List.length_append, List.length_singleton] at e
      rw [List.append_assoc, List.singleton_append] at hs
      rw [if_pos h, w64 (by omega) (by omega), show (a.length : Int) + 1 = ((a.length + 1 : Nat) : Int) by omega]
      exact ⟨r, e, hs⟩
    · rw [if_neg h]
      by_cases e : x = n
      · rw [if_pos e]
        exact ⟨_, rfl, by omega, fun y hy => .inl hy⟩
      · rw [if_neg e]
        refine ⟨a ++ n :: x :: l, ?_, by simp only [List.length_append, List.length_cons]; omega, fun y hy => ?_⟩
        · simp only [Option.bind_some, List.nil_append, List.length_nil]
          rw [if_pos (by rw [List.length_append, List.length_cons]; omega), Int.toNat_natCast, List.take_left, List.drop_left]
          rw [if_pos (by omega), if_pos (by omega), if_pos (by rw [List.length_append, List.length_singleton, List.length_cons]; omega)]
          simp
        · rcases List.mem_append.1 hy with h | h
          · exact .inl (List.mem_append.2 (.inl h))
          · rcases List.mem_cons.1 h with h | h
            · exact .inr h
            · exact .inl (List.mem_append.2 (.inr h))
theorem put_some (l : List Int) (n : Int) (k : Nat) (hl : l.length ≤ 1000000) (hk : l.length < k) : ∃ r, spec_l1Put.f k l n = some r ∧ r.length ≤ l.length + 1 ∧ ∀ y ∈ r, y ∈ l ∨ y = n := put_any l [] n k hl hk

-- drawparts
theorem draw_nums_l (l : List Int) (hl : Drawn l) (d : Nat) : ∀ (x : List Int) (p st : Int), x.length + d ≤ 6 → (∀ y ∈ x, 0 ≤ y ∧ y ≤ 65535) → 0 ≤ p → p + 4 * d ≤ 100000 →
    ∃ r p' q, (∀ k, d + 20 < k → spec_l1Cur_nums.l0 k x d l p st = some (r, p', q)) ∧ r.length ≤ 6 ∧ (∀ y ∈ r, 0 ≤ y ∧ y ≤ 65535) ∧ p ≤ p' ∧ p' ≤ p + 4 * d := by
  induction d with
  | zero =>
    intro x p st hx hm h0 h1
    refine ⟨x, p, st, fun k hk => ?_, by omega, hm, by omega, by omega⟩
    obtain ⟨k, rfl⟩ : ∃ m, k = m + 1 := ⟨k - 1, by omega⟩
    rw [spec_l1Cur_nums.l0, if_neg (by omega)]
  | succ d ih =>
    intro x p st hx hm h0 h1
    obtain ⟨u, p1, q1, e1, hu, hp1⟩ := draw_pick l hl p st 256 h0 (by omega) (by omega)
    have hu7 : wrap64 (u * 7) = u * 7 := w64 (by omega) (by omega)
    obtain ⟨v, p2, q2, e2, hv, hp2⟩ := draw_among l hl p1 q1 [0, 1, 255, 256, 65535, u * 7] (by omega) (by omega) (by simp)
    have hv2 : 0 ≤ v ∧ v ≤ 65535 := by
      simp only [List.mem_cons, List.not_mem_nil, or_false] at hv
      omega
    obtain ⟨y, ey, hy1, hy2⟩ := put_some x v 20 (by omega) (by omega)
    have ey2 : ∀ k, 20 < k → spec_l1Put.f k x v = some y := fun k hk => by
      obtain ⟨y', e', _⟩ := put_some x v k (by omega) (by omega)
      obtain ⟨m, rfl⟩ : ∃ m, k = 20 + m := ⟨k - 20, by omega⟩
      have : ∀ m, spec_l1Put.f (20 + m) x v = some y := fun m => by
        induction m with
        | zero => exact ey
        | succ m ihm => exact spec_l1Put.mono x v (20 + m) y ihm
      exact this m
    obtain ⟨r, p3, q3, e3, hr, hr2, hp3⟩ := ih y p2 q2 (by omega) (fun z hz => by
      rcases hy2 z hz with h | h
      · exact hm z h
      · rw [h]; exact hv2) (by omega) (by omega)
    refine ⟨r, p3, q3, fun k hk => ?_, hr, hr2, by omega, by omega⟩
    obtain ⟨k, rfl⟩ : ∃ m, k = m + 1 := ⟨k - 1, by omega⟩
    rw [spec_l1Cur_nums.l0, if_pos (by omega), e1]
    simp only [Option.bind_some]
    rw [hu7, e2]
    simp only [Option.bind_some]
    rw [ey2 k (by omega)]
    simp only [Option.bind_some]
    rw [w64 (x := ((d + 1 : Nat) : Int) - 1) (by omega) (by omega), show ((d + 1 : Nat) : Int) - 1 = (d : Int) by omega]
    exact e3 k (by omega)
theorem draw_nums (l : List Int) (hl : Drawn l) (p st : Int) (h0 : 0 ≤ p) (h1 : p ≤ 50000) : ∃ r p' q, (∀ k, 30 < k → spec_l1Cur_nums.f k l p st 6 = some (r, p', q)) ∧ r.length ≤ 6 ∧ (∀ y ∈ r, 0 ≤ y ∧ y ≤ 65535) ∧ p ≤ p' ∧ p' ≤ p + 30 := by
  obtain ⟨n, p1, q1, e1, hn, hp1⟩ := draw_pick l hl p st 7 h0 (by omega) (by omega)
  obtain ⟨r, p2, q2, e2, hr, hr2, hp2⟩ := draw_nums_l l hl n.toNat [] p1 q1 (by simp; omega) (fun y hy => absurd hy List.not_mem_nil) (by omega) (by omega)
  refine ⟨r, p2, q2, fun k hk => ?_, hr, hr2, by omega, by omega⟩
  have hc : (n.toNat : Int) = n := Int.toNat_of_nonneg hn.1
  rw [hc] at e2
  have h7 : wrap64 (6 + 1) = 7 := w64 (by omega) (by omega)
  unfold spec_l1Cur_nums.f
  rw [h7, e1]
  exact e2 k (by omega)
theorem draw_ofm (l : List Int) (hl : Drawn l) (p st : Int) (m : List ByteArray) (h0 : 0 ≤ p) (h1 : p ≤ 1000000000000) (hm : 1 ≤ m.length) : ∃ v p' q, spec_l1Cur_of.f l p st m = some (v, p', q) ∧ v ∈ m ∧ p ≤ p' ∧ p' ≤ p + 2 := by
  obtain ⟨v, p', q, e, hv, hp⟩ := draw_pick l hl p st (m.length : Int) h0 h1 (by omega)
  have hi : v.toNat < m.length := by omega
  refine ⟨rdOf ByteArray.empty m v, p', q, ?_, ?_, hp⟩
  · unfold spec_l1Cur_of.f
    rw [e]
    simp only [Option.bind_some]
    rw [if_pos hv.1, if_pos hv.2]
  · unfold rdOf
    rw [List.getD_eq_getElem?_getD, List.getElem?_eq_getElem hi]
    exact List.getElem_mem hi
/-- What a drawn part may be. -/
def PartIn (a : Int) (t : ByteArray) (c : List Int) : Prop := (0 ≤ a ∧ a ≤ 6) ∧ t.size ≤ 20 ∧ c.length ≤ 7
theorem draw_part0 (l : List Int) (hl : Drawn l) (p st a : Int) (t : ByteArray) (c : List Int) (h0 : 0 ≤ p) (h1 : p ≤ 90000) (h : PartIn a t c) (hc : c.length ≤ 6) : ∃ a' t' c' p' q, (∀ k, spec_l1Cur_part.j0 (k + 1) l p st a t c = some (a', t', c', p', q)) ∧ PartIn a' t' c' ∧ p ≤ p' ∧ p' ≤ p + 4 := by
  obtain ⟨o, p1, q1, e1, ho, hp1⟩ := draw_pick l hl p st 40 h0 (by omega) (by omega)
  by_cases o0 : o = 0
  · obtain ⟨u, p2, q2, e2, hu, hp2⟩ := draw_pick l hl p1 q1 7 (by omega) (by omega) (by omega)
    refine ⟨u, t, c, p2, q2, fun k => ?_, ⟨by omega, h.2⟩, by omega, by omega⟩
    rw [spec_l1Cur_part.j0, e1]
    simp only [Option.bind_some]
    rw [if_pos o0, e2]
    rfl
  · by_cases o1 : o = 1
    · obtain ⟨u, p2, q2, e2, hu, hp2⟩ := draw_ofm l hl p1 q1 [(⟨#[]⟩ : ByteArray), (⟨#[65]⟩ : ByteArray), (⟨#[120]⟩ : ByteArray)] (by omega) (by omega) (by simp)
      have hs : u.size ≤ 20 := by
        simp only [List.mem_cons, List.not_mem_nil, or_false] at hu
        rcases hu with rfl | rfl | rfl <;> decide
      refine ⟨a, u, c, p2, q2, fun k => ?_, ⟨h.1, hs, h.2.2⟩, by omega, by omega⟩
      rw [spec_l1Cur_part.j0, e1]
      simp only [Option.bind_some]
      rw [if_neg o0, if_pos o1, e2]
      rfl
    · by_cases o2 : o = 2
      · obtain ⟨u, p2, q2, e2, hu, hp2⟩ := draw_among l hl p1 q1 [(-1), 0, 65536] (by omega) (by omega) (by simp)
        refine ⟨a, t, c ++ [u], p2, q2, fun k => ?_, ⟨h.1, h.2.1, by rw [List.length_append, List.length_singleton]; omega⟩, by omega, by omega⟩
        rw [spec_l1Cur_part.j0, e1]
        simp only [Option.bind_some]
        rw [if_neg o0, if_neg o1, if_pos o2, e2]
        simp only [Option.bind_some]
        rw [if_pos (by omega)]
      · refine ⟨a, t, c, p1, q1, fun k => ?_, h, by omega, by omega⟩
        rw [spec_l1Cur_part.j0, e1]
        simp only [Option.bind_some]
        rw [if_neg o0, if_neg o1, if_neg o2]
theorem draw_part (l : List Int) (hl : Drawn l) (p st : Int) (h0 : 0 ≤ p) (h1 : p ≤ 40000) : ∃ a t c p' q, (∀ k, 40 < k → spec_l1Cur_part.f k l p st = some (a, t, c, p', q)) ∧ PartIn a t c ∧ p ≤ p' ∧ p' ≤ p + 50 := by
  obtain ⟨o, p1, q1, e1, ho, hp1⟩ := draw_pick l hl p st 4 h0 (by omega) (by omega)
  have hw : wrap64 (1 + o) = 1 + o := w64 (by omega) (by omega)
  have es : (⟨#[]⟩ : ByteArray).size = 0 := rfl
  by_cases o1 : 1 + o = 1
  · obtain ⟨u, p2, q2, e2, hu, hp2⟩ := draw_ofm l hl p1 q1 [(⟨#[97]⟩ : ByteArray), (⟨#[98, 114, 105, 100, 103, 101]⟩ : ByteArray), (⟨#[116, 119, 101, 110, 116, 121, 108, 101, 116, 116, 101, 114, 115, 105, 110, 97, 110, 97, 109, 101]⟩ : ByteArray), (⟨#[110, 111, 114, 116, 104]⟩ : ByteArray)] (by omega) (by omega) (by simp)
    have hs : u.size ≤ 20 := by
      simp only [List.mem_cons, List.not_mem_nil, or_false] at hu
      rcases hu with rfl | rfl | rfl | rfl <;> decide
    obtain ⟨a, t, c, p3, q3, e3, hP, hp3⟩ := draw_part0 l hl p2 q2 (1 + o) u [] (by omega) (by omega) ⟨by omega, hs, by simp⟩ (by simp)
    refine ⟨a, t, c, p3, q3, fun k hk => ?_, hP, by omega, by omega⟩
    obtain ⟨k, rfl⟩ : ∃ m, k = m + 1 := ⟨k - 1, by omega⟩
    unfold spec_l1Cur_part.f
    rw [e1]
    simp only [Option.bind_some]
    rw [hw, if_pos o1, e2]
    exact e3 k
  · by_cases o4 : 1 + o = 4
    · obtain ⟨u, p2, q2, e2, hu, hp2⟩ := draw_pick l hl p1 q1 2 (by omega) (by omega) (by omega)
      obtain ⟨a, t, c, p3, q3, e3, hP, hp3⟩ := draw_part0 l hl p2 q2 (1 + o) ⟨#[]⟩ [u] (by omega) (by omega) ⟨by omega, by omega, by simp⟩ (by simp)
      refine ⟨a, t, c, p3, q3, fun k hk => ?_, hP, by omega, by omega⟩
      obtain ⟨k, rfl⟩ : ∃ m, k = m + 1 := ⟨k - 1, by omega⟩
      unfold spec_l1Cur_part.f
      rw [e1]
      simp only [Option.bind_some]
      rw [hw, if_neg o1, if_pos o4, e2]
      exact e3 k
    · obtain ⟨u, p2, q2, e2, hu, _, hp2⟩ := draw_nums l hl p1 q1 (by omega) (by omega)
      obtain ⟨a, t, c, p3, q3, e3, hP, hp3⟩ := draw_part0 l hl p2 q2 (1 + o) ⟨#[]⟩ u (by omega) (by omega) ⟨by omega, by omega, by omega⟩ hu
      refine ⟨a, t, c, p3, q3, fun k hk => ?_, hP, by omega, by omega⟩
      obtain ⟨k, rfl⟩ : ∃ m, k = m + 1 := ⟨k - 1, by omega⟩
      unfold spec_l1Cur_part.f
      rw [e1]
      simp only [Option.bind_some]
      rw [hw, if_neg o1, if_neg o4, e2 _ (by omega)]
      exact e3 k
theorem draw_parts_l (l : List Int) (hl : Drawn l) (d : Nat) : ∀ (x : List S38) (p st : Int), x.length + d ≤ 11 → (∀ y ∈ x, PartIn y.f0 y.f1 y.f2) → 0 ≤ p → p + 60 * d ≤ 10000 →
    ∃ r p' q, (∀ k, d + 50 < k → spec_l1Cur_parts.l0 k x d l p st = some (r, p', q)) ∧ r.length ≤ 11 ∧ (∀ y ∈ r, PartIn y.f0 y.f1 y.f2) ∧ p ≤ p' ∧ p' ≤ p + 60 * d := by
  induction d with
  | zero =>
    intro x p st hx hm h0 h1
    refine ⟨x, p, st, fun k hk => ?_, by omega, hm, by omega, by omega⟩
    obtain ⟨k, rfl⟩ : ∃ m, k = m + 1 := ⟨k - 1, by omega⟩
    rw [spec_l1Cur_parts.l0, if_neg (by omega)]
  | succ d ih =>
    intro x p st hx hm h0 h1
    obtain ⟨a, t, c, p1, q1, e1, hP, hp1⟩ := draw_part l hl p st h0 (by omega)
    obtain ⟨r, p2, q2, e2, hr, hr2, hp2⟩ := ih (x ++ [⟨a, t, c⟩]) p1 q1 (by rw [List.length_append, List.length_singleton]; omega) (fun y hy => by
      rcases List.mem_append.1 hy with h | h
      · exact hm y h
      · rw [List.mem_singleton.1 h]; exact hP) (by omega) (by omega)
    refine ⟨r, p2, q2, fun k hk => ?_, hr, hr2, by omega, by omega⟩
    obtain ⟨k, rfl⟩ : ∃ m, k = m + 1 := ⟨k - 1, by omega⟩
    rw [spec_l1Cur_parts.l0, if_pos (by omega), e1 _ (by omega)]
    simp only [Option.bind_some]
    rw [if_pos (by omega), w64 (x := ((d + 1 : Nat) : Int) - 1) (by omega) (by omega), show ((d + 1 : Nat) : Int) - 1 = (d : Int) by omega]
    exact e2 k (by omega)
theorem draw_parts (l : List Int) (hl : Drawn l) : ∃ (r : List S38) (p' q : Int), (∀ k, 70 < k → spec_l1Cur_parts.f k l 0 0 = some (r, p', q)) ∧ r.length ≤ 11 ∧ (∀ y ∈ r, PartIn y.f0 y.f1 y.f2) ∧ 0 ≤ p' ∧ p' ≤ 1000 := by
  obtain ⟨n, p1, q1, e1, hn, hp1⟩ := draw_pick l hl 0 0 6 (by omega) (by omega) (by omega)
  obtain ⟨o, p2, q2, e2, hp2⟩ := draw_one l hl p1 q1 20 (by omega) (by omega) (by omega)
  cases o
  · obtain ⟨r, p3, q3, e3, hr, hr2, hp3⟩ := draw_parts_l l hl n.toNat [] p2 q2 (by simp; omega) (fun y hy => absurd hy List.not_mem_nil) (by omega) (by omega)
    refine ⟨r, p3, q3, fun k hk => ?_, hr, hr2, by omega, by omega⟩
    obtain ⟨k, rfl⟩ : ∃ m, k = m + 1 := ⟨k - 1, by omega⟩
    have hc : (n.toNat : Int) = n := Int.toNat_of_nonneg hn.1
    rw [hc] at e3
    unfold spec_l1Cur_parts.f
    rw [e1]
    simp only [Option.bind_some]
    rw [e2]
    simp only [Option.bind_some]
    rw [if_neg (by decide), spec_l1Cur_parts.j0]
    exact e3 k (by omega)
  · obtain ⟨b, p3, q3, e3, hb, hp3⟩ := draw_pick l hl p2 q2 2 (by omega) (by omega) (by omega)
    obtain ⟨r, p4, q4, e4, hr, hr2, hp4⟩ := draw_parts_l l hl (10 + b).toNat [] p3 q3 (by simp; omega) (fun y hy => absurd hy List.not_mem_nil) (by omega) (by omega)
    refine ⟨r, p4, q4, fun k hk => ?_, hr, hr2, by omega, by omega⟩
    obtain ⟨k, rfl⟩ : ∃ m, k = m + 1 := ⟨k - 1, by omega⟩
    have hc : ((10 + b).toNat : Int) = 10 + b := Int.toNat_of_nonneg (by omega)
    rw [hc] at e4
    have hw : wrap64 (10 + b) = 10 + b := w64 (by omega) (by omega)
    unfold spec_l1Cur_parts.f
    rw [e1]
    simp only [Option.bind_some]
    rw [e2]
    simp only [Option.bind_some]
    rw [if_pos trivial, e3]
    simp only [Option.bind_some]
    rw [hw, spec_l1Cur_parts.j0]
    exact e4 k (by omega)

-- btnat
theorem bt_nat (s : ByteArray) (i : Nat) (h : i < s.size) : bt s (i : Int) = (bytesOf s)[i]'(by rw [bytesOf_length]; exact h) := by
  unfold bt bytesOf
  simp [h]
  rfl
theorem bt_get (s : ByteArray) (i : Nat) (h : i < s.size) : (bytesOf s)[i]? = some (bt s (i : Int)) := by
  rw [bt_nat s i h, List.getElem?_eq_getElem]

-- skipr
/-- The first part of a text: its kind, its length. -/
def skipR (s : ByteArray) : Int × Int × ByteArray × Bool :=
  if (2 ≤ s.size ∧ s.size ≤ 200) ∧ bt s 1 ≤ (s.size : Int) - 2 then (bt s 0, bt s 1, s.extract 2 (2 + bt s 1).toNat, true) else (0, 0, ⟨#[]⟩, false)
theorem impl_skip (s : ByteArray) (hs : s.size ≤ 200) : impl_SkipPart.f s = some (skipR s) := by
  have b0 := bt_range s 0
  have b1 := bt_range s 1
  unfold impl_SkipPart.f skipR
  rw [w64 (x := bt s 0) (by omega) (by omega), w64 (x := bt s 1) (by omega) (by omega), w64 (x := (s.size : Int) - 2) (by omega) (by omega), w64 (x := 2 + bt s 1) (by omega) (by omega)]
  rw [if_neg (show ¬ (s.size : Int) > 200 by omega)]
  by_cases h1 : (2 : Int) ≤ s.size
  · rw [if_neg (show ¬ (s.size : Int) < 2 by omega), if_pos (show (1 : Int) < s.size by omega)]
    by_cases h3 : (s.size : Int) - 2 < bt s 1
    · rw [if_pos h3, if_neg (by omega)]
    · rw [if_neg h3, if_pos (show (0 : Int) < s.size by omega), if_pos (show (2 : Int) ≤ 2 + bt s 1 by omega), if_pos (show 2 + bt s 1 ≤ (s.size : Int) by omega), if_pos (by omega)]
  · rw [if_pos (show (s.size : Int) < 2 by omega), if_neg (by omega)]

-- withs0
theorem bytes_str (l : List Int) (h : ∀ x ∈ l, 0 ≤ x ∧ x ≤ 255) : bytesOf (strOfNums l) = l := by
  unfold bytesOf
  rw [strOfNums_data, List.map_map]
  conv => rhs; rw [← List.map_id l]
  apply List.map_congr_left
  intro x hx
  have := h x hx
  simp [Function.comp]
  omega
theorem str_bytes (s : ByteArray) : strOfNums (bytesOf s) = s := by
  have h : (strOfNums (bytesOf s)).data.toList = s.data.toList := by
    rw [strOfNums_data]
    unfold bytesOf
    rw [List.map_map]
    conv => rhs; rw [← List.map_id s.data.toList]
    apply List.map_congr_left
    intro x _
    simp [Function.comp]
  obtain ⟨⟨a⟩⟩ := s
  exact congrArg (fun l : List UInt8 => (⟨⟨l⟩⟩ : ByteArray)) h
theorem bytes_in (s : ByteArray) : ∀ x ∈ bytesOf s, 0 ≤ x ∧ x ≤ 255 := by
  intro x hx
  unfold bytesOf at hx
  obtain ⟨b, _, rfl⟩ := List.mem_map.1 hx
  have := b.toNat_lt
  omega
theorem str_app (a b : List Int) : strOfNums a ++ strOfNums b = strOfNums (a ++ b) := by
  have h : (strOfNums a ++ strOfNums b).data.toList = (strOfNums (a ++ b)).data.toList := by
    rw [strOfNums_data, ByteArray.data_append, Array.toList_append, strOfNums_data, strOfNums_data, List.map_append]
  generalize strOfNums a ++ strOfNums b = x at h
  generalize strOfNums (a ++ b) = y at h
  obtain ⟨⟨x⟩⟩ := x
  obtain ⟨⟨y⟩⟩ := y
  exact congrArg (fun l : List UInt8 => (⟨⟨l⟩⟩ : ByteArray)) h
theorem str_cut (s : ByteArray) (i j : Nat) (hj : j ≤ s.size) : s.extract i j = strOfNums (((bytesOf s).take j).drop i) := by
  have h : (s.extract i j).data.toList = (strOfNums (((bytesOf s).take j).drop i)).data.toList := by
    rw [strOfNums_data, ByteArray.data_extract, Array.toList_extract]
    unfold bytesOf
    rw [List.map_drop, List.map_take, List.map_map]
    rw [show (fun n : Int => UInt8.ofNat n.toNat) ∘ (fun b : UInt8 => (b.toNat : Int)) = id by funext b; simp [Function.comp]]
    rw [List.map_id]
    simp [List.extract, List.drop_take]
  generalize s.extract i j = x at h
  generalize strOfNums (((bytesOf s).take j).drop i) = y at h
  obtain ⟨⟨x⟩⟩ := x
  obtain ⟨⟨y⟩⟩ := y
  exact congrArg (fun l : List UInt8 => (⟨⟨l⟩⟩ : ByteArray)) h

/-- What PutNums tells. -/
def putI (l : List Int) : ByteArray × Bool := if l.length ≤ 20 ∧ (l.all fun x => decide (0 ≤ x ∧ x ≤ 65535)) = true then (strOfNums (two l), true) else (⟨#[]⟩, false)
theorem put_is (l : List Int) (k : Nat) (hn : l.length ≤ 1000000) (hk : l.length < k) : spec_PutNums.f k l = some (putI l) ∧ impl_PutNums.f k l = some (putI l) := by
  unfold spec_PutNums.f impl_PutNums.f spec_l2Nums.f
  rw [spec_l1All_eq _ _ _ _ (by omega) hk, impl_allIn_eq _ _ _ _ (by omega) hk, spec_l2Put_eq _ _ hn hk, impl_numText_eq _ _ hn hk]
  by_cases h : (l.length : Int) ≤ 20
  · have h2 : l.length ≤ 20 := by omega
    have h3 : ¬ (l.length : Int) > 20 := by omega
    rw [if_pos h, if_neg h3]
    simp only [Option.bind_some]
    unfold putI
    cases ha : (l.all fun x => decide (0 ≤ x ∧ x ≤ 65535))
    · have h4 : ¬ (l.length ≤ 20 ∧ false = true) := fun g => Bool.false_ne_true g.2
      rw [if_neg h4]
      exact ⟨rfl, rfl⟩
    · have h4 : l.length ≤ 20 ∧ true = true := ⟨h2, rfl⟩
      rw [if_pos h4]
      exact ⟨rfl, rfl⟩
  · have h2 : ¬ (l.length ≤ 20 ∧ (l.all fun x => decide (0 ≤ x ∧ x ≤ 65535)) = true) := fun g => h (by omega)
    have h3 : (l.length : Int) > 20 := by omega
    have e : putI l = (⟨#[]⟩, false) := by
      unfold putI
      rw [if_neg h2]
    rw [if_neg h, if_pos h3, e]
    exact ⟨rfl, rfl⟩
theorem two_in (l : List Int) : ∀ x ∈ two l, 0 ≤ x ∧ x ≤ 255 := by
  intro x hx
  unfold two at hx
  obtain ⟨y, _, h⟩ := List.mem_flatMap.1 hx
  simp only [List.mem_cons, List.not_mem_nil, or_false] at h
  omega
theorem tk_two : ∀ (l A : List Int), (∀ x ∈ A, 0 ≤ x ∧ x ≤ 255) → (∀ x ∈ l, 0 ≤ x ∧ x ≤ 65535) → tk (strOfNums (A ++ two l)) A.length l.length = l
  | [], A, _, _ => rfl
  | x :: l, A, hA, hl => by
    have hx := hl x List.mem_cons_self
    have e : two (x :: l) = [x / 256 % 256, x % 256] ++ two l := by simp [two]
    have hA2 : ∀ y ∈ A ++ [x / 256 % 256, x % 256], 0 ≤ y ∧ y ≤ 255 := by
      intro y hy
      rcases List.mem_append.1 hy with h | h
      · exact hA y h
      · simp only [List.mem_cons, List.not_mem_nil, or_false] at h
        omega
    have hall : ∀ y ∈ A ++ two (x :: l), 0 ≤ y ∧ y ≤ 255 := by
      intro y hy
      rcases List.mem_append.1 hy with h | h
      · exact hA y h
      · exact two_in _ y h
    have hs : (strOfNums (A ++ two (x :: l))).size = A.length + 2 + (two l).length := by
      rw [strSize, e, List.length_append, List.length_append]
      simp
      omega
    have hb := bytes_str _ hall
    have h2 := tk_two l (A ++ [x / 256 % 256, x % 256]) hA2 (fun y hy => hl y (List.mem_cons_of_mem _ hy))
    rw [List.append_assoc, ← e, List.length_append] at h2
    generalize strOfNums (A ++ two (x :: l)) = S at hs hb h2 ⊢
    have g0 := bt_get S A.length (by omega)
    have g1 := bt_get S (A.length + 1) (by omega)
    rw [hb, e, List.getElem?_append_right (Nat.le_refl _), Nat.sub_self] at g0
    rw [hb, e, List.getElem?_append_right (by omega), Nat.add_sub_cancel_left] at g1
    have b0 : bt S (A.length : Nat) = x / 256 % 256 := by simpa using g0.symm
    have b1 : bt S (A.length + 1 : Nat) = x % 256 := by simpa using g1.symm
    rw [List.length_cons, tk, b0, b1, show x / 256 % 256 * 256 + x % 256 = x by omega]
    congr 1
theorem sameI_l (a : List Int) (hn : a.length ≤ 4611686018427387904) (d : Nat) : ∀ (k i : Nat), i + d = a.length → d < k → laws_sameInts.l0 k a a a.length i = some true := by
  induction d with
  | zero =>
    intro k i h hk
    obtain ⟨k, rfl⟩ : ∃ m, k = m + 1 := ⟨k - 1, by omega⟩
    rw [laws_sameInts.l0, if_neg (by omega)]
  | succ d ih =>
    intro k i h hk
    obtain ⟨k, rfl⟩ : ∃ m, k = m + 1 := ⟨k - 1, by omega⟩
    rw [laws_sameInts.l0, if_pos (by omega), if_pos (by omega), if_pos (by omega), if_pos (by omega), if_pos rfl, w64 (by omega) (by omega), show ((i : Int) + 1) = ((i + 1 : Nat) : Int) by omega]
    exact ih k (i + 1) (by omega) (by omega)
theorem sameI (a : List Int) (k : Nat) (hn : a.length ≤ 4611686018427387904) (hk : a.length < k) : laws_sameInts.f k a a = some true := by
  unfold laws_sameInts.f
  rw [if_pos rfl]
  exact sameI_l a hn a.length k 0 (by omega) hk
theorem sameP_l (a : List S38) (hn : a.length ≤ 1000000) (hb : ∀ x ∈ a, x.f2.length ≤ 100) (d : Nat) : ∀ (k i : Nat), i + d = a.length → d + 110 < k → laws_sameParts.l0 k a a a.length i = some true := by
  induction d with
  | zero =>
    intro k i h hk
    obtain ⟨k, rfl⟩ : ∃ m, k = m + 1 := ⟨k - 1, by omega⟩
    rw [laws_sameParts.l0, if_neg (by omega)]
  | succ d ih =>
    intro k i h hk
    obtain ⟨k, rfl⟩ : ∃ m, k = m + 1 := ⟨k - 1, by omega⟩
    have hx : (rd_T38 a i).f2.length ≤ 100 := by rw [rd_T38_at a i (by omega)]; exact hb _ (List.getElem_mem _)
    rw [laws_sameParts.l0, if_pos (by omega), if_pos (by omega), if_pos (by omega), if_pos (by omega), if_pos rfl, if_pos rfl, sameI _ _ (by omega) (by omega), w64 (by omega) (by omega), show ((i : Int) + 1) = ((i + 1 : Nat) : Int) by omega, Option.bind_some, if_pos rfl]
    exact ih k (i + 1) (by omega) (by omega)
theorem sameP (a : List S38) (k : Nat) (hn : a.length ≤ 1000000) (hb : ∀ x ∈ a, x.f2.length ≤ 100) (hk : a.length + 110 < k) : laws_sameParts.f k a a = some true := by
  unfold laws_sameParts.f
  rw [if_pos rfl]
  exact sameP_l a hn hb a.length k 0 (by omega) hk
/-- The text of a part. -/
def textI (a : Int) (s : ByteArray) (c : List Int) : ByteArray := strOfNums [a % 256, ((s ++ strOfNums (two c)).size : Int) % 256] ++ (s ++ strOfNums (two c))
theorem text_is (a : Int) (s : ByteArray) (c : List Int) (k : Nat) (hs : s.size ≤ 20) (hc : c.length ≤ 20) (hk : 20 < k) : spec_l2Text.f k a s c = some (textI a s c) ∧ impl_partText.f k a s c = some (textI a s c) := by
  have h2 : (strOfNums (two c)).size = 2 * c.length := by rw [strSize, two_len]
  have h3 : (s ++ strOfNums (two c)).size = s.size + 2 * c.length := by rw [ByteArray.size_append, h2]
  have h4 : (strOfNums [a % 256, ((s ++ strOfNums (two c)).size : Int) % 256]).size = 2 := by rw [strSize]; rfl
  have c1 : s.size + (strOfNums (two c)).size ≤ 9223372036854775807 := by omega
  have c2 : (strOfNums [a % 256, ((s ++ strOfNums (two c)).size : Int) % 256]).size + (s ++ strOfNums (two c)).size ≤ 9223372036854775807 := by omega
  unfold spec_l2Text.f impl_partText.f textI
  rw [spec_l2Put_eq c k (by omega) (by omega), impl_numText_eq c k (by omega) (by omega)]
  simp only [Option.bind_some, if_pos c1, if_pos c2]
  exact ⟨trivial, trivial⟩
theorem text_size (a : Int) (s : ByteArray) (c : List Int) : (textI a s c).size = 2 + s.size + 2 * c.length := by
  have h2 : (strOfNums (two c)).size = 2 * c.length := by rw [strSize, two_len]
  unfold textI
  rw [ByteArray.size_append, strSize, ByteArray.size_append, h2]
  simp
  omega
theorem text_bytes (a : Int) (s : ByteArray) (c : List Int) : bytesOf (textI a s c) = [a % 256, ((s.size + 2 * c.length : Nat) : Int) % 256] ++ (bytesOf s ++ two c) := by
  have h2 : (strOfNums (two c)).size = 2 * c.length := by rw [strSize, two_len]
  have h3 : (s ++ strOfNums (two c)).size = s.size + 2 * c.length := by rw [ByteArray.size_append, h2]
  have e : s ++ strOfNums (two c) = strOfNums (bytesOf s ++ two c) := by
    conv => lhs; rw [← str_bytes s]
    rw [str_app]
  unfold textI
  rw [h3, e, str_app, bytes_str]
  intro x hx
  rcases List.mem_append.1 hx with h | h
  · simp only [List.mem_cons, List.not_mem_nil, or_false] at h
    omega
  · rcases List.mem_append.1 h with h | h
    · exact bytes_in s x h
    · exact two_in c x h
/-- A part is read as it was written. -/
theorem skip_text (a : Int) (s : ByteArray) (c : List Int) (ha : 0 ≤ a ∧ a ≤ 255) (hs : s.size ≤ 20) (hc : c.length ≤ 20) : skipR (textI a s c) = (a, ((textI a s c).size : Int) - 2, (textI a s c).extract 2 (textI a s c).size, true) := by
  have hz := text_size a s c
  have hb := text_bytes a s c
  have b0 : bt (textI a s c) ((0 : Nat) : Int) = a := by
    have g := bt_get (textI a s c) 0 (by omega)
    rw [hb] at g
    have g2 : a % 256 = bt (textI a s c) ((0 : Nat) : Int) := by simpa using g
    omega
  have b1 : bt (textI a s c) ((1 : Nat) : Int) = ((textI a s c).size : Int) - 2 := by
    have g := bt_get (textI a s c) 1 (by omega)
    rw [hb] at g
    have g2 : ((s.size + 2 * c.length : Nat) : Int) % 256 = bt (textI a s c) ((1 : Nat) : Int) := by simpa using g
    omega
  have b0' : bt (textI a s c) 0 = a := b0
  have b1' : bt (textI a s c) 1 = ((textI a s c).size : Int) - 2 := b1
  have hc1 : (2 ≤ (textI a s c).size ∧ (textI a s c).size ≤ 200) ∧ bt (textI a s c) 1 ≤ ((textI a s c).size : Int) - 2 := by rw [b1']; omega
  unfold skipR
  rw [if_pos hc1, b0', b1', show (2 + (((textI a s c).size : Int) - 2)).toNat = (textI a s c).size by omega]
-- the law's parts
theorem last_part (l1 : List Int) (hl : Drawn l1) (kind : Int) (o : List S38) (k : Nat) (hk : 300 < k) : laws_FnNums.l0 k l1 kind o o.length o.length = some true := by
  obtain ⟨k, rfl⟩ : ∃ m, k = m + 2 := ⟨k - 2, by omega⟩
  obtain ⟨a, t, c, p1, q1, e1, ⟨ha, ht, hc⟩, _⟩ := draw_part l1 hl 0 0 (by omega) (by omega)
  have hD : spec_DrawPartText.f (k + 1) l1 = some (a, t, c) := by
    unfold spec_DrawPartText.f spec_DrawGoodPart.f
    rw [e1 _ (by omega)]
    rfl
  obtain ⟨b, g1, g2, _⟩ := both_part a t c (k + 1) (by omega) (by omega) (by omega)
  obtain ⟨x1, x2⟩ := text_is a t c (k + 1) ht (by omega) (by omega)
  have f1 : spec_PartText.f (k + 1) a t c = some (if b = true then (textI a t c, true) else (⟨#[]⟩, false)) := by
    unfold spec_PartText.f
    rw [g1, Option.bind_some]
    cases b
    · rfl
    · rw [if_pos rfl, x1]
      rfl
  have f2 : impl_PartText.f (k + 1) a t c = some (if b = true then (textI a t c, true) else (⟨#[]⟩, false)) := by
    unfold impl_PartText.f
    rw [g2, Option.bind_some]
    cases b
    · rfl
    · rw [if_pos rfl, x2]
      rfl
  rw [show k + 2 = (k + 1) + 1 from rfl, laws_FnNums.l0, if_neg (by omega), hD, Option.bind_some, f1, f2, Option.bind_some, Option.bind_some, bne_self_eq_false, if_neg (by decide), if_pos rfl, g2, Option.bind_some, laws_FnNums.j5]
  cases b
  · rfl
  · have hz := text_size a t c
    have hsk := impl_skip (textI a t c) (by omega)
    rw [skip_text a t c (by omega) ht (by omega)] at hsk
    have hw : wrap64 (((textI a t c).size : Int) - 2) = ((textI a t c).size : Int) - 2 := w64 (by omega) (by omega)
    have h2 : (2 : Int) ≤ ((textI a t c).size : Int) := by omega
    show (if (true != true) = true then none else if true = true then (impl_SkipPart.f (textI a t c)).bind _ else some true) = some true
    rw [if_neg (by decide), if_pos rfl, hsk, Option.bind_some]
    show (if true = true then (if a = a then (if ((textI a t c).size : Int) - 2 = wrap64 (((textI a t c).size : Int) - 2) then (if (2 : Int) ≤ ((textI a t c).size : Int) then some (((textI a t c).extract 2 (textI a t c).size).toList == ((textI a t c).extract 2 (textI a t c).size).toList) else none) else none) else none) else none) = some true
    rw [if_pos rfl, if_pos rfl, if_pos hw.symm, if_pos h2, beq_self_eq_true]
theorem kinds_l (l1 : List Int) (hl : Drawn l1) (kind : Int) (o : List S38) (hn : o.length ≤ 1000) (h : ∀ x ∈ o, x.f0 = kind) (d : Nat) : ∀ (i k : Nat), i + d = o.length → d + 300 < k → laws_FnNums.l0 k l1 kind o o.length i = some true := by
  induction d with
  | zero =>
    intro i k hi hk
    obtain rfl : i = o.length := by omega
    exact last_part l1 hl kind o k (by omega)
  | succ d ih =>
    intro i k hi hk
    obtain ⟨k, rfl⟩ : ∃ m, k = m + 1 := ⟨k - 1, by omega⟩
    have hx : (rd_T38 o i).f0 = kind := by rw [rd_T38_at o i (by omega)]; exact h _ (List.getElem_mem _)
    rw [laws_FnNums.l0, if_pos (by omega), if_pos (by omega), if_pos (by omega), if_pos hx, w64 (by omega) (by omega), show ((i : Int) + 1) = ((i + 1 : Nat) : Int) by omega]
    exact ih (i + 1) k (by omega) (by omega)
theorem take_len (s : ByteArray) : ((if s.size ≤ 40 ∧ s.size % 2 = 0 then (tk s 0 (s.size / 2), true) else ([], false)) : List Int × Bool).1.length ≤ 20 := by
  split
  · rename_i h
    rw [tk_len]
    omega
  · simp
theorem second_part (l1 : List Int) (hl : Drawn l1) (k : Nat) (hk : 1000 < k) : laws_FnNums.j2 k l1 = some true := by
  obtain ⟨k, rfl⟩ : ∃ m, k = m + 2 := ⟨k - 2, by omega⟩
  obtain ⟨x, p1, q1, e1, hx, hx2, hp1⟩ := draw_nums l1 hl 0 0 (by omega) (by omega)
  obtain ⟨b, p2, q2, e2, hp2⟩ := draw_one l1 hl p1 q1 6 (by omega) (by omega) (by omega)
  have hput := (put_is x (k + 1) (by omega) (by omega)).1
  have hps : (putI x).1.size ≤ 40 := by
    unfold putI
    split
    · show (strOfNums (two x)).size ≤ 40
      rw [strSize, two_len]
      omega
    · show (⟨#[]⟩ : ByteArray).size ≤ 40
      decide
  have hD : ∃ t : ByteArray, spec_DrawTakeNums.f (k + 1) l1 = some t ∧ t.size ≤ 41 := by
    have hq : ∀ t : ByteArray, (if b = true then (if (putI x).1.size + 1 ≤ 9223372036854775807 then some ((putI x).1 ++ (⟨#[120]⟩ : ByteArray)) else none) else some (putI x).1) = some t → spec_DrawTakeNums.f (k + 1) l1 = some t := fun t ht => by
      refine Option.bind_eq_some_iff.2 ⟨(x, p1, q1), e1 _ (by omega), Option.bind_eq_some_iff.2 ⟨putI x, hput, Option.bind_eq_some_iff.2 ⟨(b, p2, q2), e2, ht⟩⟩⟩
    cases b
    · exact ⟨_, hq _ (if_neg (by decide)), by omega⟩
    · have hc : (putI x).1.size + 1 ≤ 9223372036854775807 := by omega
      refine ⟨_, hq ((putI x).1 ++ (⟨#[120]⟩ : ByteArray)) (by rw [if_pos rfl, if_pos hc]), ?_⟩
      rw [ByteArray.size_append]
      show (putI x).1.size + 1 ≤ 41
      omega
  obtain ⟨t, ht, hts⟩ := hD
  obtain ⟨l, p3, q3, e3, hn, hP, hp3⟩ := draw_parts l1 hl
  obtain ⟨kind, p4, q4, e4, _, _⟩ := draw_pick l1 hl p3 q3 6 (by omega) (by omega) (by omega)
  have hD2 : spec_DrawPartsOf.f (k + 1) l1 = some (l, kind) := by
    unfold spec_DrawPartsOf.f
    rw [e3 _ (by omega), Option.bind_some, e4]
    rfl
  have hb : ∀ y ∈ l, y.f2.length ≤ 1048576 := fun y hy => by have := (hP y hy).2.2; omega
  have hT := take_len t
  have hO : (partsR l kind).1.length ≤ 10 ∧ (∀ y ∈ (partsR l kind).1, y.f2.length ≤ 100) ∧ ∀ y ∈ (partsR l kind).1, y.f0 = kind := by
    unfold partsR
    by_cases h : l.length ≤ 10
    · rw [if_pos h]
      refine ⟨?_, fun y hy => ?_, fun y hy => ?_⟩
      · have := List.length_filter_le (fun x : S38 => x.f0 == kind) l
        show (ofKind kind l).length ≤ 10
        unfold ofKind
        omega
      · have := (hP y (List.mem_filter.1 hy).1).2.2
        omega
      · simpa using (List.mem_filter.1 hy).2
    · rw [if_neg h]
      exact ⟨by simp, fun y hy => absurd hy List.not_mem_nil, fun y hy => absurd hy List.not_mem_nil⟩
  rw [show k + 2 = (k + 1) + 1 from rfl, laws_FnNums.j2, ht, Option.bind_some, spec_TakeNums_f t _ (by omega), impl_TakeNums_f t _ (by omega)]
  generalize ((if t.size ≤ 40 ∧ t.size % 2 = 0 then (tk t 0 (t.size / 2), true) else ([], false)) : List Int × Bool) = T at hT ⊢
  rw [Option.bind_some, Option.bind_some, hD2, Option.bind_some, spec_PartsOf_f l kind _ hb (by omega), impl_PartsOf_f l kind _ hb (by omega), Option.bind_some, Option.bind_some, bne_self_eq_false, if_neg (by decide), sameI T.1 (k + 1) (by omega) (by omega), Option.bind_some, if_pos rfl, bne_self_eq_false, if_neg (by decide), sameP (partsR l kind).1 (k + 1) (by omega) hO.2.1 (by omega), Option.bind_some]
  rw [laws_FnNums.j3, if_neg (by decide)]
  exact kinds_l l1 hl kind _ (by omega) hO.2.2 (partsR l kind).1.length 0 k (by omega) (by omega)
theorem FnNums : laws_FnNums.PureS := by
  intro l m ⟨hl, hl2⟩ ⟨hm, hm2⟩
  have u8 (x : Int) (h : (Lit.int .u8 x).wf = true) : 0 ≤ x ∧ x ≤ 255 := by
    simp [Lit.wf, IntKind.min, IntKind.max, IntKind.signed, IntKind.bits] at h
    omega
  have dl : Drawn l := ⟨fun x hx => u8 x (hl2 x hx), by omega⟩
  have dm : Drawn m := ⟨fun x hx => u8 x (hm2 x hx), by omega⟩
  obtain ⟨K, hK⟩ : ∃ K, K = 2000 := ⟨_, rfl⟩
  refine ⟨K + 3, ?_⟩
  unfold laws_FnNums.f
  by_cases h0 : wrap64 ((l.length : Int) + (m.length : Int)) > 1048576
  · rw [if_pos h0]
  rw [if_neg h0]
  have hD : ∃ x : List Int, spec_DrawPutNums.f (K + 3) l = some x ∧ x.length ≤ 21 := by
    obtain ⟨o, p1, q1, e1, hp1⟩ := draw_one l dl 0 0 20 (by omega) (by omega) (by omega)
    unfold spec_DrawPutNums.f
    rw [e1, Option.bind_some]
    cases o <;> dsimp only
    · obtain ⟨x, p2, q2, e2, hx, _⟩ := draw_nums l dl p1 q1 (by omega) (by omega)
      rw [if_neg (by decide), e2 _ (by omega)]
      exact ⟨x, rfl, by omega⟩
    · obtain ⟨v, p2, q2, e2, hv, hp2⟩ := draw_pick l dl p1 q1 2 (by omega) (by omega) (by omega)
      have hw : wrap64 (20 + v) = 20 + v := w64 (by omega) (by omega)
      have c1 : (0 : Int) ≤ 20 + v := by omega
      have c2 : (20 + v).toNat ≤ 35184372088832 := by omega
      rw [if_pos rfl, e2, Option.bind_some]
      dsimp only
      rw [hw, if_pos c1, if_pos c2]
      exact ⟨_, rfl, by rw [List.length_replicate]; omega⟩
  obtain ⟨x, hx, hxl⟩ := hD
  obtain ⟨f1, f2⟩ := put_is x (K + 3) (by omega) (by omega)
  rw [hx, Option.bind_some, f1, f2, Option.bind_some, Option.bind_some, bne_self_eq_false, if_neg (by decide), show K + 3 = (K + 2) + 1 from rfl, laws_FnNums.j0, bne_self_eq_false, if_neg (by decide)]
  by_cases h : x.length ≤ 20 ∧ (x.all fun x => decide (0 ≤ x ∧ x ≤ 65535)) = true
  · have e : putI x = (strOfNums (two x), true) := by
      unfold putI
      rw [if_pos h]
    have hin : ∀ y ∈ x, 0 ≤ y ∧ y ≤ 65535 := fun y hy => of_decide_eq_true (List.all_eq_true.1 h.2 y hy)
    have hs : (strOfNums (two x)).size = 2 * x.length := by rw [strSize, two_len]
    have ht : impl_TakeNums.f (K + 2) (strOfNums (two x)) = some (x, true) := by
      have hc : (strOfNums (two x)).size ≤ 40 ∧ (strOfNums (two x)).size % 2 = 0 := by omega
      have e2 := tk_two x [] (fun y hy => absurd hy List.not_mem_nil) hin
      have e3 : tk (strOfNums (two x)) 0 x.length = x := e2
      rw [impl_TakeNums_f _ _ (by omega), if_pos hc, hs, show 2 * x.length / 2 = x.length by omega, e3]
    have hw : wrap64 (2 * (x.length : Int)) = ((strOfNums (two x)).size : Int) := by rw [w64 (by omega) (by omega), hs]; omega
    rw [e, if_pos rfl, ht, Option.bind_some]
    dsimp only
    rw [if_pos rfl, sameI x _ (by omega) (by omega), Option.bind_some, if_pos rfl, hw, bne_self_eq_false, show K + 2 = (K + 1) + 1 from rfl, laws_FnNums.j1, if_neg (by decide)]
    exact second_part m dm _ (by omega)
  · have e : putI x = (⟨#[]⟩, false) := by
      unfold putI
      rw [if_neg h]
    rw [e, if_neg (by decide)]
    exact second_part m dm _ (by omega)

end Go.Proofs.Ytajfpfmbmkmafaa.Pure
