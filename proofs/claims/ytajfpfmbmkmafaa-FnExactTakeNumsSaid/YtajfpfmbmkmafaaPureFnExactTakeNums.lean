/- FnExactTakeNums answers true for each text. No condition beyond the row's own bounds. -/
import Derived.Test.YtajfpfmbmkmafaaPFnExactTakeNumsx2
namespace Go.Proofs.Ytajfpfmbmkmafaa.Pure
open Go.RowKit Go.Proofs.Ytajfpfmbmkmafaa.PFnExactTakeNums Go.Proofs.YtajfpfmbmkmafaaW.PrintWords Go.Proofs.YtajfpfmbmkmafaaW.PrintLast
set_option linter.unusedVariables false
set_option linter.unusedSimpArgs false

-- w64
theorem w64 {x : Int} (h0 : -9223372036854775808 ≤ x) (h1 : x ≤ 9223372036854775807) : wrap64 x = x := by
  unfold wrap64
  omega
theorem tm {x y : Int} (h0 : 0 ≤ x) : Int.tmod x y = x % y := Int.tmod_eq_emod_of_nonneg h0
theorem wf64 {x : Int} (h : (Lit.int .i64 x).wf = true) : -9223372036854775808 ≤ x ∧ x ≤ 9223372036854775807 := by
  simp [Lit.wf, IntKind.min, IntKind.max, IntKind.signed, IntKind.bits] at h
  omega

-- bits16
theorem wraps_i64 (n : Int) (h₀ : 0 ≤ n) (h₁ : n < 2 ^ 20) : IntKind.i64.wrap n = n := by
  have h : n < 1048576 := h₁
  rw [IntKind.wrap_i64]
  omega
/-- Two bytes beside each other: 'or' of them is their sum. -/
theorem or16 (x y : Int) (hx : 0 ≤ x ∧ x ≤ 255) (hy : 0 ≤ y ∧ y ≤ 255) : Go.bits .or .i64 (x * 256) y = x * 256 + y := by
  have e8 : (2 : Int) ^ 8 = 256 := rfl
  have e20 : (2 : Int) ^ 20 = 1048576 := rfl
  exact bits_join .i64 20 (by decide) wraps_i64 8 (x * 256) y (by omega) (by rw [e8]; omega) (by rw [e20]; omega) (by omega) (by rw [e8]; omega) (by rw [e20]; omega)

-- takenums
/-- The numbers of a text, two bytes each, from a place on. -/
def tk (s : ByteArray) (i : Nat) : Nat → List Int
  | 0 => []
  | n + 1 => (bt s i * 256 + bt s (i + 1 : Nat)) :: tk s (i + 2) n
theorem tk_snoc (s : ByteArray) : ∀ (n i : Nat), tk s i (n + 1) = tk s i n ++ [bt s (i + 2 * n : Nat) * 256 + bt s (i + 2 * n + 1 : Nat)]
  | 0, i => by simp [tk]
  | n + 1, i => by
    have h := tk_snoc s n (i + 2)
    rw [tk, h]
    simp only [tk, List.cons_append]
    rw [show i + 2 + 2 * n = i + 2 * (n + 1) by omega]
theorem tk_len (s : ByteArray) : ∀ (n i : Nat), (tk s i n).length = n
  | 0, i => rfl
  | n + 1, i => by simp [tk, tk_len s n]
theorem spec_take_l (s : ByteArray) (hs : s.size ≤ 40) (d : Nat) : ∀ (k n : Nat), 2 * n + 2 * d = s.size → d < k →
    spec_l2Take.l0 k s (tk s 0 n) (2 * n : Nat) = some (tk s 0 (s.size / 2)) := by
  induction d with
  | zero =>
    intro k n h hk
    obtain ⟨k, rfl⟩ : ∃ m, k = m + 1 := ⟨k - 1, by omega⟩
    simp only [spec_l2Take.l0]
    rw [w64 (by omega) (by omega), if_neg (by omega)]
    obtain rfl : n = s.size / 2 := by omega
    rfl
  | succ d ih =>
    intro k n h hk
    obtain ⟨k, rfl⟩ : ∃ m, k = m + 1 := ⟨k - 1, by omega⟩
    have h1 := ih k (n + 1) (by omega) (by omega)
    have b0 := bt_range s (2 * n : Nat)
    have b1 := bt_range s (2 * n + 1 : Nat)
    simp only [spec_l2Take.l0]
    rw [w64 (x := ((2 * n : Nat) : Int) + 1) (by omega) (by omega), if_pos (by omega), if_pos (by omega), if_pos (by omega), if_pos (by omega), if_pos (by rw [tk_len]; omega)]
    rw [show ((2 * n : Nat) : Int) + 1 = ((2 * n + 1 : Nat) : Int) by omega, w64 (x := bt s (2 * n : Nat)) (by omega) (by omega), w64 (x := bt s (2 * n : Nat) * 256) (by omega) (by omega), w64 (x := bt s (2 * n + 1 : Nat)) (by omega) (by omega),
      w64 (x := bt s (2 * n : Nat) * 256 + bt s (2 * n + 1 : Nat)) (by omega) (by omega), w64 (by omega) (by omega)]
    have e := tk_snoc s n 0
    rw [Nat.zero_add] at e
    rw [← e, show ((2 * n : Nat) : Int) + 2 = ((2 * (n + 1) : Nat) : Int) by omega]
    exact h1
theorem spec_take (s : ByteArray) (hs : s.size ≤ 40) (he : s.size % 2 = 0) (k : Nat) (hk : s.size < k) : spec_l2Take.f k s = some (tk s 0 (s.size / 2)) := by
  have h := spec_take_l s hs (s.size / 2) k 0 (by omega) (by omega)
  unfold spec_l2Take.f
  simpa [tk] using h
theorem impl_take_l (s : ByteArray) (hs : s.size ≤ 40) (d : Nat) : ∀ (k n : Nat), 2 * n + 2 * d = s.size → d < k →
    impl_TakeNums.l0 k s (tk s 0 n) (2 * n : Nat) = some (tk s 0 (s.size / 2), true) := by
  induction d with
  | zero =>
    intro k n h hk
    obtain ⟨k, rfl⟩ : ∃ m, k = m + 1 := ⟨k - 1, by omega⟩
    simp only [impl_TakeNums.l0]
    rw [if_neg (by omega)]
    obtain rfl : n = s.size / 2 := by omega
    rfl
  | succ d ih =>
    intro k n h hk
    obtain ⟨k, rfl⟩ : ∃ m, k = m + 1 := ⟨k - 1, by omega⟩
    have h1 := ih k (n + 1) (by omega) (by omega)
    have b0 := bt_range s (2 * n : Nat)
    have b1 := bt_range s (2 * n + 1 : Nat)
    simp only [impl_TakeNums.l0]
    rw [w64 (x := ((2 * n : Nat) : Int) + 1) (by omega) (by omega), if_pos (by omega), if_pos (by omega), if_pos (by omega), if_pos (by omega), if_pos (by rw [tk_len]; omega)]
    rw [show ((2 * n : Nat) : Int) + 1 = ((2 * n + 1 : Nat) : Int) by omega, w64 (x := bt s (2 * n : Nat)) (by omega) (by omega), w64 (x := bt s (2 * n : Nat) * 256) (by omega) (by omega), w64 (x := bt s (2 * n + 1 : Nat)) (by omega) (by omega),
      or16 _ _ b0 b1, w64 (by omega) (by omega)]
    have e := tk_snoc s n 0
    rw [Nat.zero_add] at e
    rw [← e, show ((2 * n : Nat) : Int) + 2 = ((2 * (n + 1) : Nat) : Int) by omega]
    exact h1
/-- The numbers of a text, if it is one of numbers. -/
theorem spec_TakeNums_f (s : ByteArray) (k : Nat) (hk : s.size < k) : spec_TakeNums.f k s = some (if s.size ≤ 40 ∧ s.size % 2 = 0 then (tk s 0 (s.size / 2), true) else ([], false)) := by
  unfold spec_TakeNums.f
  by_cases h : s.size ≤ 40
  · rw [if_neg (by omega)]
    by_cases h2 : s.size % 2 = 0
    · rw [if_pos (by omega), spec_take s h h2 k hk, if_pos ⟨h, h2⟩]
      rfl
    · rw [if_neg (by omega), if_neg (fun e => h2 e.2)]
  · rw [if_pos (by omega), if_neg (fun e => h e.1)]
theorem impl_TakeNums_f (s : ByteArray) (k : Nat) (hk : s.size + 1 < k) : impl_TakeNums.f k s = some (if s.size ≤ 40 ∧ s.size % 2 = 0 then (tk s 0 (s.size / 2), true) else ([], false)) := by
  obtain ⟨k, rfl⟩ : ∃ m, k = m + 1 := ⟨k - 1, by omega⟩
  unfold impl_TakeNums.f
  by_cases h : s.size ≤ 40
  · rw [if_neg (by omega)]
    simp only [impl_TakeNums.j0]
    by_cases h2 : s.size % 2 = 0
    · rw [if_neg (by simp; omega), if_pos ⟨h, h2⟩]
      have h := impl_take_l s h (s.size / 2) k 0 (by omega) (by omega)
      simpa [tk] using h
    · rw [if_pos (by simp; omega), if_neg (fun e => h2 e.2)]
  · rw [if_pos (by omega), if_neg (fun e => h e.1)]
    simp only [impl_TakeNums.j0]
    simp

-- intlist
/-- n, n + 1, .., in so many places. -/
def upFrom (m : Int) (n : Nat) : List Int := (List.range n).map fun i : Nat => m + i
theorem upFrom_len (m : Int) (n : Nat) : (upFrom m n).length = n := by simp [upFrom]
theorem rd_nat (l : List Int) (i : Nat) : rd l i = l.getD i 0 := by simp [rd]
theorem rd_upFrom (m : Int) (n i : Nat) (h : i < n) : rd (upFrom m n) i = m + i := by
  simp [rd, upFrom, h]
theorem eqI_l (a b : List Int) (hl : a.length = b.length) (hn : a.length ≤ 4611686018427387904) (d : Nat) : ∀ (k i : Nat), i + d = a.length → d < k →
    laws_eqIntS.l0 k a b i = some (decide (a.drop i = b.drop i)) := by
  induction d with
  | zero =>
    intro k i h hk
    obtain ⟨k, rfl⟩ : ∃ m, k = m + 1 := ⟨k - 1, by omega⟩
    simp only [laws_eqIntS.l0]
    rw [if_neg (by omega), List.drop_of_length_le (by omega), List.drop_of_length_le (by omega)]
    simp
  | succ d ih =>
    intro k i h hk
    obtain ⟨k, rfl⟩ : ∃ m, k = m + 1 := ⟨k - 1, by omega⟩
    have h1 := ih k (i + 1) (by omega) (by omega)
    simp only [laws_eqIntS.l0]
    rw [if_pos (by omega), if_pos (by omega), if_pos (by omega), rd_nat, rd_nat, w64 (by omega) (by omega)]
    have ea : a.drop i = a.getD i 0 :: a.drop (i + 1) := by
      rw [List.getD_eq_getElem?_getD, List.getElem?_eq_getElem (by omega)]
      exact List.drop_eq_getElem_cons (by omega)
    have eb : b.drop i = b.getD i 0 :: b.drop (i + 1) := by
      rw [List.getD_eq_getElem?_getD, List.getElem?_eq_getElem (by omega)]
      exact List.drop_eq_getElem_cons (by omega)
    by_cases e : a.getD i 0 = b.getD i 0
    · rw [if_pos e]
      rw [show ((i : Int) + 1) = ((i + 1 : Nat) : Int) by omega, h1, ea, eb, e]
      simp
    · rw [if_neg e, ea, eb, decide_eq_false (fun h => e (List.cons.inj h).1)]
theorem eqI (a b : List Int) (k : Nat) (hn : a.length ≤ 4611686018427387904) (hk : a.length < k) : laws_eqIntS.f k a b = some (decide (a = b)) := by
  unfold laws_eqIntS.f
  by_cases hl : a.length = b.length
  · rw [if_pos (by omega)]
    simpa using eqI_l a b hl hn a.length k 0 (by omega) hk
  · rw [if_neg (by omega)]
    have : a ≠ b := fun e => hl (by rw [e])
    simp [this]
theorem markI_l (m : Int) (hm : 0 ≤ m ∧ m ≤ 4611686018427387904) (d : Nat) : ∀ (k i : Nat) (l : List Int), i + d = l.length → l.length ≤ 2305843009213693952 → d < k → l.take i = upFrom m i →
    laws_markIntS.l0 k l (m + i) i = some (m + l.length, upFrom m l.length) := by
  induction d with
  | zero =>
    intro k i l h hn hk ht
    obtain ⟨k, rfl⟩ : ∃ m, k = m + 1 := ⟨k - 1, by omega⟩
    simp only [laws_markIntS.l0]
    rw [if_neg (by omega)]
    obtain rfl : i = l.length := by omega
    rw [List.take_length] at ht
    rw [← ht]
  | succ d ih =>
    intro k i l h hn hk ht
    obtain ⟨k, rfl⟩ : ∃ m, k = m + 1 := ⟨k - 1, by omega⟩
    simp only [laws_markIntS.l0]
    rw [if_pos (by omega), if_pos (by omega), w64 (x := m + i + 1) (by omega) (by omega), w64 (x := (i : Int) + 1) (by omega) (by omega)]
    have h1 := ih k (i + 1) (l.set (i : Int).toNat (m + i)) (by rw [List.length_set]; omega) (by rw [List.length_set]; omega) (by omega) ?_
    · rw [List.length_set] at h1
      rw [show m + (i : Int) + 1 = m + ((i + 1 : Nat) : Int) by omega, show (i : Int) + 1 = ((i + 1 : Nat) : Int) by omega]
      exact h1
    · rw [Int.toNat_natCast, List.take_set]
      rw [show List.take (i + 1) l = List.take i l ++ [l.getD i 0] by
        rw [List.take_succ_eq_append_getElem (by omega), List.getD_eq_getElem?_getD, List.getElem?_eq_getElem (by omega)]; rfl]
      rw [ht, List.set_append_right _ _ (by rw [upFrom_len]; omega), upFrom_len]
      simp [upFrom, List.range_succ]
theorem markI (l : List Int) (m : Int) (k : Nat) (hm : 0 ≤ m ∧ m ≤ 4611686018427387904) (hn : l.length ≤ 2305843009213693952) (hk : l.length < k) :
    laws_markIntS.f k l m = some (m + l.length, upFrom m l.length) := by
  have h := markI_l m hm l.length k 0 l (by omega) hn hk (by simp [upFrom])
  unfold laws_markIntS.f
  simpa using h
theorem heldI_l (m : Int) (hm : 0 ≤ m ∧ m ≤ 4611686018427387904) (n : Nat) (hn : n ≤ 2305843009213693952) (d : Nat) : ∀ (k i : Nat), i + d = n → d < k →
    laws_heldIntS.l0 k (upFrom m n) (m + i) i = some (m + n) := by
  induction d with
  | zero =>
    intro k i h hk
    obtain ⟨k, rfl⟩ : ∃ m, k = m + 1 := ⟨k - 1, by omega⟩
    simp only [laws_heldIntS.l0]
    rw [if_neg (by rw [upFrom_len]; omega)]
    obtain rfl : i = n := by omega
    rfl
  | succ d ih =>
    intro k i h hk
    obtain ⟨k, rfl⟩ : ∃ m, k = m + 1 := ⟨k - 1, by omega⟩
    have h1 := ih k (i + 1) (by omega) (by omega)
    simp only [laws_heldIntS.l0]
    rw [if_pos (by rw [upFrom_len]; omega), if_pos (by omega), rd_upFrom m n i (by omega), if_pos rfl, w64 (x := m + i + 1) (by omega) (by omega), w64 (x := (i : Int) + 1) (by omega) (by omega)]
    rw [show m + (i : Int) + 1 = m + ((i + 1 : Nat) : Int) by omega, show (i : Int) + 1 = ((i + 1 : Nat) : Int) by omega]
    exact h1
theorem heldI (m : Int) (n k : Nat) (hm : 0 ≤ m ∧ m ≤ 4611686018427387904) (hn : n ≤ 2305843009213693952) (hk : n < k) : laws_heldIntS.f k (upFrom m n) m = some (m + n) := by
  have h := heldI_l m hm n hn n k 0 (by omega) hk
  unfold laws_heldIntS.f
  simpa using h

theorem FnExactTakeNums : laws_FnExactTakeNums.Pure := by
  intro s hs
  refine ⟨s.size + 9, ?_⟩
  unfold laws_FnExactTakeNums.f
  by_cases h0 : (s.size : Int) > 1048576
  · rw [if_pos h0]
  · rw [if_neg h0, spec_TakeNums_f s _ (by omega), impl_TakeNums_f s _ (by omega)]
    obtain ⟨r, hr, hl⟩ : ∃ r : List Int × Bool, r = (if s.size ≤ 40 ∧ s.size % 2 = 0 then (tk s 0 (s.size / 2), true) else ([], false)) ∧ r.1.length ≤ s.size := by
      refine ⟨_, rfl, ?_⟩
      split
      · simp only [tk_len]
        omega
      · simp
    rw [← hr]
    simp only [Option.bind_some]
    rw [eqI _ _ _ (by omega) (by omega)]
    simp only [Option.bind_some, decide_true, if_true, bne_self_eq_false]
    simp only [laws_FnExactTakeNums.j0, Bool.false_eq_true, if_false]
    rw [markI _ _ _ (by omega) (by omega) (by omega)]
    simp only [Option.bind_some]
    rw [heldI _ _ _ (by omega) (by omega) (by omega)]
    simp only [Option.bind_some]
    rw [if_neg (by omega)]
    simp only [if_true]
    rw [impl_TakeNums_f s _ (by omega), ← hr]
    simp only [Option.bind_some]
    rw [eqI _ _ _ (by omega) (by omega)]
    simp only [Option.bind_some, decide_true, if_true, bne_self_eq_false]
    simp only [laws_FnExactTakeNums.j1, Bool.false_eq_true, if_false]
    rw [heldI _ _ _ (by omega) (by omega) (by omega)]
    simp only [Option.bind_some]
    rw [if_neg (by omega)]
    simp only [if_true]

end Go.Proofs.Ytajfpfmbmkmafaa.Pure
