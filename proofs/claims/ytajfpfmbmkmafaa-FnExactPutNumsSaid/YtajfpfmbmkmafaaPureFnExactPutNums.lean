/- FnExactPutNums answers true for each list of numbers. No condition beyond the row's own bounds. -/
import Derived.Test.YtajfpfmbmkmafaaSFnExactPutNums
namespace Go.Proofs.Ytajfpfmbmkmafaa.Pure
open Go.RowKit Go.Proofs.Ytajfpfmbmkmafaa.PFnExactPutNums Go.Proofs.YtajfpfmbmkmafaaW.PrintWords Go.Proofs.YtajfpfmbmkmafaaW.PrintLast
set_option linter.unusedVariables false
set_option linter.unusedSimpArgs false

-- w64
theorem w64 {x : Int} (h0 : -9223372036854775808 ≤ x) (h1 : x ≤ 9223372036854775807) : wrap64 x = x := by
  unfold wrap64
  omega
theorem tm {x y : Int} (h0 : 0 ≤ x) : Int.tmod x y = x % y := Int.tmod_eq_emod_of_nonneg h0
theorem wf64 {x : Int} (h : (Lit.int .i64 x).wf = true) : -9223372036854775808 ≤ x ∧ x ≤ 9223372036854775807 := by
  simp [Lit.wf, IntKind.min, IntKind.max, IntKind.signed, IntKind.bits] at h
  omega

-- inrange(spec_l1In)
theorem spec_l1In_eq (a lo hi : Int) : spec_l1In.f a lo hi = some (decide (lo ≤ a ∧ a ≤ hi)) := by
  unfold spec_l1In.f
  by_cases h : lo ≤ a
  · rw [if_pos (show a ≥ lo from h)]
    simp [h]
  · rw [if_neg (show ¬ a ≥ lo from h)]
    simp [h]

-- allin(spec_l1All,spec_l1In)
theorem spec_l1All_l (lo hi : Int) (l : List Int) (hn : l.length ≤ 4611686018427387904) (d : Nat) : ∀ (k i : Nat), i + d = l.length → d < k →
    spec_l1All.l0 k lo hi l l.length i = some ((l.drop i).all fun x => decide (lo ≤ x ∧ x ≤ hi)) := by
  induction d with
  | zero =>
    intro k i h hk
    obtain ⟨k, rfl⟩ : ∃ m, k = m + 1 := ⟨k - 1, by omega⟩
    simp only [spec_l1All.l0]
    rw [if_neg (by omega), List.drop_of_length_le (by omega)]
    rfl
  | succ d ih =>
    intro k i h hk
    obtain ⟨k, rfl⟩ : ∃ m, k = m + 1 := ⟨k - 1, by omega⟩
    have h1 := ih k (i + 1) (by omega) (by omega)
    have ea : l.drop i = rd l i :: l.drop (i + 1) := by
      unfold rd
      rw [Int.toNat_natCast, List.getD_eq_getElem?_getD, List.getElem?_eq_getElem (by omega)]
      exact List.drop_eq_getElem_cons (by omega)
    simp only [spec_l1All.l0]
    rw [if_pos (by omega), if_pos (by omega), if_pos (by omega), spec_l1In_eq, ea, List.all_cons]
    simp only [Option.bind_some]
    by_cases e : lo ≤ rd l i ∧ rd l i ≤ hi
    · rw [decide_eq_true e]
      simp only [if_true, Bool.true_and]
      rw [w64 (by omega) (by omega), show ((i : Int) + 1) = ((i + 1 : Nat) : Int) by omega]
      exact h1
    · rw [decide_eq_false e]
      simp
theorem spec_l1All_eq (l : List Int) (lo hi : Int) (k : Nat) (hn : l.length ≤ 4611686018427387904) (hk : l.length < k) : spec_l1All.f k l lo hi = some (l.all fun x => decide (lo ≤ x ∧ x ≤ hi)) := by
  have h := spec_l1All_l lo hi l hn l.length k 0 (by omega) hk
  unfold spec_l1All.f
  simpa using h

-- inrange(impl_in)
theorem impl_in_eq (a lo hi : Int) : impl_in.f a lo hi = some (decide (lo ≤ a ∧ a ≤ hi)) := by
  unfold impl_in.f
  by_cases h : lo ≤ a
  · rw [if_pos (show a ≥ lo from h)]
    simp [h]
  · rw [if_neg (show ¬ a ≥ lo from h)]
    simp [h]

-- allin(impl_allIn,impl_in)
theorem impl_allIn_l (lo hi : Int) (l : List Int) (hn : l.length ≤ 4611686018427387904) (d : Nat) : ∀ (k i : Nat), i + d = l.length → d < k →
    impl_allIn.l0 k lo hi l l.length i = some ((l.drop i).all fun x => decide (lo ≤ x ∧ x ≤ hi)) := by
  induction d with
  | zero =>
    intro k i h hk
    obtain ⟨k, rfl⟩ : ∃ m, k = m + 1 := ⟨k - 1, by omega⟩
    simp only [impl_allIn.l0]
    rw [if_neg (by omega), List.drop_of_length_le (by omega)]
    rfl
  | succ d ih =>
    intro k i h hk
    obtain ⟨k, rfl⟩ : ∃ m, k = m + 1 := ⟨k - 1, by omega⟩
    have h1 := ih k (i + 1) (by omega) (by omega)
    have ea : l.drop i = rd l i :: l.drop (i + 1) := by
      unfold rd
      rw [Int.toNat_natCast, List.getD_eq_getElem?_getD, List.getElem?_eq_getElem (by omega)]
      exact List.drop_eq_getElem_cons (by omega)
    simp only [impl_allIn.l0]
    rw [if_pos (by omega), if_pos (by omega), if_pos (by omega), impl_in_eq, ea, List.all_cons]
    simp only [Option.bind_some]
    by_cases e : lo ≤ rd l i ∧ rd l i ≤ hi
    · rw [decide_eq_true e]
      simp only [if_true, Bool.true_and]
      rw [w64 (by omega) (by omega), show ((i : Int) + 1) = ((i + 1 : Nat) : Int) by omega]
      exact h1
    · rw [decide_eq_false e]
      simp
theorem impl_allIn_eq (l : List Int) (lo hi : Int) (k : Nat) (hn : l.length ≤ 4611686018427387904) (hk : l.length < k) : impl_allIn.f k l lo hi = some (l.all fun x => decide (lo ≤ x ∧ x ≤ hi)) := by
  have h := impl_allIn_l lo hi l hn l.length k 0 (by omega) hk
  unfold impl_allIn.f
  simpa using h

-- toints
theorem toI_l (l : List Int) (hn : l.length ≤ 35184372088832) (d : Nat) : ∀ (k i : Nat) (m : List Int), i + d = l.length → m.length = l.length → m.take i = l.take i → d < k →
    laws_toIntS.l0 k l m i = some l := by
  induction d with
  | zero =>
    intro k i m h hm ht hk
    obtain ⟨k, rfl⟩ : ∃ m, k = m + 1 := ⟨k - 1, by omega⟩
    simp only [laws_toIntS.l0]
    rw [if_neg (by omega)]
    obtain rfl : i = l.length := by omega
    rw [List.take_length, ← hm, List.take_length] at ht
    rw [ht]
  | succ d ih =>
    intro k i m h hm ht hk
    obtain ⟨k, rfl⟩ : ∃ m, k = m + 1 := ⟨k - 1, by omega⟩
    simp only [laws_toIntS.l0]
    rw [if_pos (by omega), if_pos (by omega), if_pos (by omega), w64 (by omega) (by omega), show ((i : Int) + 1) = ((i + 1 : Nat) : Int) by omega]
    refine ih k (i + 1) _ (by omega) (by rw [List.length_set]; exact hm) ?_ (by omega)
    unfold rd
    rw [Int.toNat_natCast, List.take_set, List.take_succ_eq_append_getElem (by omega), List.take_succ_eq_append_getElem (by omega), ht,
      List.set_append_right _ _ (by rw [List.length_take]; omega)]
    simp [List.length_take, List.getD_eq_getElem?_getD, show i < l.length by omega, show min i l.length = i by omega]
theorem toI (l : List Int) (k : Nat) (hn : l.length ≤ 35184372088832) (hk : l.length < k) : laws_toIntS.f k l = some l := by
  unfold laws_toIntS.f
  rw [if_pos (by omega), if_pos (by omega)]
  exact toI_l l hn l.length k 0 _ (by omega) (by simp) (by simp) hk

-- two
/-- Numbers as bytes, two each. -/
def two (l : List Int) : List Int := l.flatMap fun x => [x / 256 % 256, x % 256]
theorem two_len (l : List Int) : (two l).length = 2 * l.length := by
  unfold two
  induction l with
  | nil => rfl
  | cons a l ih => rw [List.flatMap_cons, List.length_append, ih]; simp; omega
theorem two_snoc (l : List Int) (x : Int) : two (l ++ [x]) = two l ++ [x / 256 % 256, x % 256] := by simp [two]

-- puts(spec_l2Put)
theorem spec_l2Put_l (l : List Int) (hn : l.length ≤ 1000000) (d : Nat) : ∀ (k i : Nat), i + d = l.length → d < k →
    spec_l2Put.l0 k (two (l.take i)) l l.length i = some (strOfNums (two l)) := by
  induction d with
  | zero =>
    intro k i h hk
    obtain ⟨k, rfl⟩ : ∃ m, k = m + 1 := ⟨k - 1, by omega⟩
    simp only [spec_l2Put.l0]
    rw [if_neg (by omega), List.take_of_length_le (by omega)]
  | succ d ih =>
    intro k i h hk
    obtain ⟨k, rfl⟩ : ∃ m, k = m + 1 := ⟨k - 1, by omega⟩
    have h1 := ih k (i + 1) (by omega) (by omega)
    have ea : l.take (i + 1) = l.take i ++ [rd l i] := by
      unfold rd
      rw [Int.toNat_natCast, List.getD_eq_getElem?_getD, List.getElem?_eq_getElem (by omega)]
      exact List.take_succ_eq_append_getElem (by omega)
    have hl := two_len (l.take i)
    have hl2 : (l.take i).length ≤ l.length := by rw [List.length_take]; omega
    simp only [spec_l2Put.l0]
    rw [if_pos (by omega), if_pos (by omega), if_pos (by omega)]
    simp only [Option.bind_some, List.length_cons, List.length_nil]
    rw [if_pos (by omega), ← two_snoc, ← ea, w64 (by omega) (by omega), show ((i : Int) + 1) = ((i + 1 : Nat) : Int) by omega]
    exact h1
theorem spec_l2Put_eq (l : List Int) (k : Nat) (hn : l.length ≤ 1000000) (hk : l.length < k) : spec_l2Put.f k l = some (strOfNums (two l)) := by
  have h := spec_l2Put_l l hn l.length k 0 (by omega) hk
  unfold spec_l2Put.f
  simpa [two] using h

-- puts(impl_numText)
theorem impl_numText_l (l : List Int) (hn : l.length ≤ 1000000) (d : Nat) : ∀ (k i : Nat), i + d = l.length → d < k →
    impl_numText.l0 k (two (l.take i)) l l.length i = some (strOfNums (two l)) := by
  induction d with
  | zero =>
    intro k i h hk
    obtain ⟨k, rfl⟩ : ∃ m, k = m + 1 := ⟨k - 1, by omega⟩
    simp only [impl_numText.l0]
    rw [if_neg (by omega), List.take_of_length_le (by omega)]
  | succ d ih =>
    intro k i h hk
    obtain ⟨k, rfl⟩ : ∃ m, k = m + 1 := ⟨k - 1, by omega⟩
    have h1 := ih k (i + 1) (by omega) (by omega)
    have ea : l.take (i + 1) = l.take i ++ [rd l i] := by
      unfold rd
      rw [Int.toNat_natCast, List.getD_eq_getElem?_getD, List.getElem?_eq_getElem (by omega)]
      exact List.take_succ_eq_append_getElem (by omega)
    have hl := two_len (l.take i)
    have hl2 : (l.take i).length ≤ l.length := by rw [List.length_take]; omega
    simp only [impl_numText.l0]
    rw [if_pos (by omega), if_pos (by omega), if_pos (by omega)]
    simp only [Option.bind_some, List.length_cons, List.length_nil]
    rw [if_pos (by omega), ← two_snoc, ← ea, w64 (by omega) (by omega), show ((i : Int) + 1) = ((i + 1 : Nat) : Int) by omega]
    exact h1
theorem impl_numText_eq (l : List Int) (k : Nat) (hn : l.length ≤ 1000000) (hk : l.length < k) : impl_numText.f k l = some (strOfNums (two l)) := by
  have h := impl_numText_l l hn l.length k 0 (by omega) hk
  unfold impl_numText.f
  simpa [two] using h

-- upfrom
/-- n, n + 1, .., in so many places. -/
def upFrom (m : Int) (n : Nat) : List Int := (List.range n).map fun i : Nat => m + i
theorem upFrom_len (m : Int) (n : Nat) : (upFrom m n).length = n := by simp [upFrom]
theorem rd_nat (l : List Int) (i : Nat) : rd l i = l.getD i 0 := by simp [rd]
theorem rd_upFrom (m : Int) (n i : Nat) (h : i < n) : rd (upFrom m n) i = m + i := by
  simp [rd, upFrom, h]

-- eqi
theorem eqI_l (a b : List Int) (hl : a.length = b.length) (hn : a.length ≤ 4611686018427387904) (d : Nat) : ∀ (k i : Nat), i + d = a.length → d < k →
    laws_eqIntS.l0 k a b i = some (decide (a.drop i = b.drop i)) := by
  induction d with
  | zero =>
    intro k i h hk
    obtain ⟨k, rfl⟩ : ∃ m, k = m + 1 := ⟨k - 1, by omega⟩
    simp only [laws_eqIntS.l0]
    rw [if_neg (by omega), List.drop_of_length_le (by omega), List.drop_of_length_le (by omega)]
    simp
  | succ d ih =>
    intro k i h hk
    obtain ⟨k, rfl⟩ : ∃ m, k = m + 1 := ⟨k - 1, by omega⟩
    have h1 := ih k (i + 1) (by omega) (by omega)
    simp only [laws_eqIntS.l0]
    rw [if_pos (by omega), if_pos (by omega), if_pos (by omega), rd_nat, rd_nat, w64 (by omega) (by omega)]
    have ea : a.drop i = a.getD i 0 :: a.drop (i + 1) := by
      rw [List.getD_eq_getElem?_getD, List.getElem?_eq_getElem (by omega)]
      exact List.drop_eq_getElem_cons (by omega)
    have eb : b.drop i = b.getD i 0 :: b.drop (i + 1) := by
      rw [List.getD_eq_getElem?_getD, List.getElem?_eq_getElem (by omega)]
      exact List.drop_eq_getElem_cons (by omega)
    by_cases e : a.getD i 0 = b.getD i 0
    · rw [if_pos e]
      rw [show ((i : Int) + 1) = ((i + 1 : Nat) : Int) by omega, h1, ea, eb, e]
      simp
    · rw [if_neg e, ea, eb, decide_eq_false (fun h => e (List.cons.inj h).1)]
theorem eqI (a b : List Int) (k : Nat) (hn : a.length ≤ 4611686018427387904) (hk : a.length < k) : laws_eqIntS.f k a b = some (decide (a = b)) := by
  unfold laws_eqIntS.f
  by_cases hl : a.length = b.length
  · rw [if_pos (by omega)]
    simpa using eqI_l a b hl hn a.length k 0 (by omega) hk
  · rw [if_neg (by omega)]
    have : a ≠ b := fun e => hl (by rw [e])
    simp [this]

theorem put_both (l : List Int) (k : Nat) (hn : l.length ≤ 1000000) (hk : l.length < k) : ∃ r : ByteArray × Bool, spec_PutNums.f k l = some r ∧ impl_PutNums.f k l = some r := by
  unfold spec_PutNums.f impl_PutNums.f spec_l2Nums.f
  rw [spec_l1All_eq _ _ _ _ (by omega) hk, impl_allIn_eq _ _ _ _ (by omega) hk, spec_l2Put_eq _ _ hn hk, impl_numText_eq _ _ hn hk]
  by_cases h : (l.length : Int) ≤ 20
  · rw [if_pos h, if_neg (by omega)]
    simp only [Option.bind_some]
    cases (l.all fun x => decide (0 ≤ x ∧ x ≤ 65535))
    · exact ⟨_, rfl, rfl⟩
    · exact ⟨_, rfl, rfl⟩
  · rw [if_neg h, if_pos (by omega)]
    exact ⟨_, rfl, rfl⟩
theorem FnExactPutNums : laws_FnExactPutNums.PureS := by
  intro l ⟨hn, _⟩
  refine ⟨l.length + 9, ?_⟩
  unfold laws_FnExactPutNums.f
  by_cases h0 : (l.length : Int) > 1048576
  · rw [if_pos h0]
  · rw [if_neg h0, toI _ _ (by omega) (by omega)]
    simp only [Option.bind_some]
    by_cases hs : l.length ≤ 1000000
    · obtain ⟨r, e1, e2⟩ := put_both l (l.length + 9) hs (by omega)
      rw [e1, e2]
      simp only [Option.bind_some, if_true, bne_self_eq_false]
      simp only [laws_FnExactPutNums.j0, Bool.false_eq_true, if_false]
      rw [toI _ _ (by omega) (by omega)]
      simp only [Option.bind_some]
      rw [eqI _ _ _ (by omega) (by omega)]
      simp
    · have e1 : spec_PutNums.f (l.length + 9) l = some ((⟨#[]⟩ : ByteArray), false) := by
        unfold spec_PutNums.f spec_l2Nums.f
        rw [if_neg (by omega)]
        simp
      have e2 : impl_PutNums.f (l.length + 9) l = some ((⟨#[]⟩ : ByteArray), false) := by
        unfold impl_PutNums.f
        rw [if_pos (by omega)]
      rw [e1, e2]
      simp only [Option.bind_some, if_true, bne_self_eq_false]
      simp only [laws_FnExactPutNums.j0, Bool.false_eq_true, if_false]
      rw [toI _ _ (by omega) (by omega)]
      simp only [Option.bind_some]
      rw [eqI _ _ _ (by omega) (by omega)]
      simp

end Go.Proofs.Ytajfpfmbmkmafaa.Pure
