/- FnExactMendByte answers true for each text and each place. No condition beyond the row's own bounds. -/
import Derived.Test.YtmagnbbpbhmacaaSFnExactMendByte
namespace Go.Proofs.Ytmagnbbpbhmacaa.Pure
open Go.RowKit Go.Proofs.Ytmagnbbpbhmacaa.PFnExactMendByte Go.Proofs.YtmagnbbpbhmacaaW.PrintWords Go.Proofs.YtmagnbbpbhmacaaW.PrintLast
set_option linter.unusedVariables false
set_option linter.unusedSimpArgs false

-- w64
theorem w64 {x : Int} (h0 : -9223372036854775808 ≤ x) (h1 : x ≤ 9223372036854775807) : wrap64 x = x := by
  unfold wrap64
  omega
theorem tm {x y : Int} (h0 : 0 ≤ x) : Int.tmod x y = x % y := Int.tmod_eq_emod_of_nonneg h0
theorem wf64 {x : Int} (h : (Lit.int .i64 x).wf = true) : -9223372036854775808 ≤ x ∧ x ≤ 9223372036854775807 := by
  simp [Lit.wf, IntKind.min, IntKind.max, IntKind.signed, IntKind.bits] at h
  omega

-- withs
theorem bytes_str (l : List Int) (h : ∀ x ∈ l, 0 ≤ x ∧ x ≤ 255) : bytesOf (strOfNums l) = l := by
  unfold bytesOf
  rw [strOfNums_data, List.map_map]
  conv => rhs; rw [← List.map_id l]
  apply List.map_congr_left
  intro x hx
  have := h x hx
  simp [Function.comp]
  omega
theorem str_bytes (s : ByteArray) : strOfNums (bytesOf s) = s := by
  have h : (strOfNums (bytesOf s)).data.toList = s.data.toList := by
    rw [strOfNums_data]
    unfold bytesOf
    rw [List.map_map]
    conv => rhs; rw [← List.map_id s.data.toList]
    apply List.map_congr_left
    intro x _
    simp [Function.comp]
  obtain ⟨⟨a⟩⟩ := s
  exact congrArg (fun l : List UInt8 => (⟨⟨l⟩⟩ : ByteArray)) h
theorem bytes_in (s : ByteArray) : ∀ x ∈ bytesOf s, 0 ≤ x ∧ x ≤ 255 := by
  intro x hx
  unfold bytesOf at hx
  obtain ⟨b, _, rfl⟩ := List.mem_map.1 hx
  have := b.toNat_lt
  omega
theorem str_app (a b : List Int) : strOfNums a ++ strOfNums b = strOfNums (a ++ b) := by
  have h : (strOfNums a ++ strOfNums b).data.toList = (strOfNums (a ++ b)).data.toList := by
    rw [strOfNums_data, ByteArray.data_append, Array.toList_append, strOfNums_data, strOfNums_data, List.map_append]
  generalize strOfNums a ++ strOfNums b = x at h
  generalize strOfNums (a ++ b) = y at h
  obtain ⟨⟨x⟩⟩ := x
  obtain ⟨⟨y⟩⟩ := y
  exact congrArg (fun l : List UInt8 => (⟨⟨l⟩⟩ : ByteArray)) h
theorem str_cut (s : ByteArray) (i j : Nat) (hj : j ≤ s.size) : s.extract i j = strOfNums (((bytesOf s).take j).drop i) := by
  have h : (s.extract i j).data.toList = (strOfNums (((bytesOf s).take j).drop i)).data.toList := by
    rw [strOfNums_data, ByteArray.data_extract, Array.toList_extract]
    unfold bytesOf
    rw [List.map_drop, List.map_take, List.map_map]
    rw [show (fun n : Int => UInt8.ofNat n.toNat) ∘ (fun b : UInt8 => (b.toNat : Int)) = id by funext b; simp [Function.comp]]
    rw [List.map_id]
    simp [List.extract, List.drop_take]
  generalize s.extract i j = x at h
  generalize strOfNums (((bytesOf s).take j).drop i) = y at h
  obtain ⟨⟨x⟩⟩ := x
  obtain ⟨⟨y⟩⟩ := y
  exact congrArg (fun l : List UInt8 => (⟨⟨l⟩⟩ : ByteArray)) h
theorem with_eq (s : ByteArray) (i : Nat) (v : Int) (hs : s.size ≤ 200) (hi : i < s.size) : spec_l1With.f s i v = some (strOfNums ((bytesOf s).set i (v % 256))) := by
  unfold spec_l1With.f
  rw [if_pos (by omega), if_pos (by omega), if_pos (by omega), Int.toNat_natCast]
theorem withs_eq (s : ByteArray) (i : Nat) (l : List Int) (hs : s.size ≤ 200) (hi : i + l.length ≤ s.size) : impl_withBytes.f s i l = some (strOfNums ((bytesOf s).take i ++ l ++ (bytesOf s).drop (i + l.length))) := by
  have e1 : s.extract 0 ((i : Int)).toNat = strOfNums ((bytesOf s).take i) := by rw [Int.toNat_natCast, str_cut s 0 i (by omega)]; rfl
  have e2 : s.extract (((i + l.length : Nat) : Int)).toNat s.size = strOfNums ((bytesOf s).drop (i + l.length)) := by
    rw [Int.toNat_natCast, str_cut s _ _ (Nat.le_refl _), List.take_of_length_le (by rw [bytesOf_length]; exact Nat.le_refl _)]
  unfold impl_withBytes.f
  rw [w64 (x := (i : Int) + (l.length : Int)) (by omega) (by omega), show (i : Int) + (l.length : Int) = ((i + l.length : Nat) : Int) by omega, e1, e2, str_app, str_app]
  have h1 : (0 : Int) ≤ (i : Int) := by omega
  have h2 : (i : Int) ≤ (s.size : Int) := by omega
  have h3 : (strOfNums ((bytesOf s).take i)).size + (strOfNums l).size ≤ 9223372036854775807 := by rw [strOfNums_size, strOfNums_size, List.length_take]; omega
  have h4 : (0 : Int) ≤ ((i + l.length : Nat) : Int) := by omega
  have h5 : ((i + l.length : Nat) : Int) ≤ (s.size : Int) := by omega
  have h6 : (strOfNums ((bytesOf s).take i ++ l)).size + (strOfNums ((bytesOf s).drop (i + l.length))).size ≤ 9223372036854775807 := by rw [strOfNums_size, strOfNums_size, List.length_append, List.length_take, List.length_drop, bytesOf_length]; omega
  rw [if_pos h1, if_pos h2, if_pos h3, if_pos h4, if_pos h5, if_pos h6]
theorem set_one (l : List Int) (i : Nat) (x : Int) (hi : i < l.length) : l.set i x = l.take i ++ [x] ++ l.drop (i + 1) := by
  rw [List.set_eq_take_append_cons_drop, if_pos hi]
  simp
theorem set_two (l : List Int) (i : Nat) (x y : Int) (hi : i + 1 < l.length) : (l.set i x).set (i + 1) y = l.take i ++ [x, y] ++ l.drop (i + 2) := by
  apply List.ext_getElem?
  intro j
  rw [List.getElem?_set, List.getElem?_set, List.length_set]
  by_cases h1 : j < i
  · rw [if_neg (by omega), if_neg (by omega), List.append_assoc, List.getElem?_append_left (by rw [List.length_take]; omega), List.getElem?_take, if_pos h1]
  · by_cases h2 : j = i
    · subst h2
      rw [if_neg (by omega), if_pos rfl, if_pos (by omega), List.append_assoc, List.getElem?_append_right (by rw [List.length_take]; omega)]
      simp [List.length_take, show min j l.length = j by omega]
    · by_cases h3 : j = i + 1
      · subst h3
        rw [if_pos rfl, if_pos (by omega), List.append_assoc, List.getElem?_append_right (by rw [List.length_take]; omega)]
        simp [List.length_take, show min i l.length = i by omega]
      · rw [if_neg (by omega), if_neg (by omega), List.getElem?_append_right (by rw [List.length_append, List.length_take]; simp; omega), List.getElem?_drop]
        congr 1
        rw [List.length_append, List.length_take]
        simp
        omega
theorem set_in (l : List Int) (h : ∀ x ∈ l, 0 ≤ x ∧ x ≤ 255) (i : Nat) (x : Int) : ∀ y ∈ l.set i (x % 256), 0 ≤ y ∧ y ≤ 255 := by
  intro y hy
  rcases List.mem_or_eq_of_mem_set hy with hy | rfl
  · exact h y hy
  · omega
theorem long_eq (s : ByteArray) : spec_l1Long.f s = some (decide (s.size ≤ 200)) := by
  unfold spec_l1Long.f
  congr 1
  rw [decide_eq_decide]
  omega
theorem within_eq (s : ByteArray) (i n : Int) (hi : -9223372036854775808 ≤ i ∧ i ≤ 9223372036854775807) (hn : 0 ≤ n ∧ n ≤ 2) : impl_within.f s i n = some (decide (s.size ≤ 200 ∧ 0 ≤ i ∧ i < (s.size : Int) ∧ i + n ≤ s.size)) := by
  unfold impl_within.f
  by_cases h1 : (s.size : Int) ≤ 200
  · rw [if_pos h1]
    by_cases h2 : i ≥ 0
    · rw [if_pos h2]
      by_cases h3 : i < (s.size : Int)
      · rw [if_pos h3, w64 (by omega) (by omega)]
        congr 1
        rw [decide_eq_decide]
        omega
      · rw [if_neg h3, decide_eq_false (by omega)]
    · rw [if_neg h2, decide_eq_false (by omega)]
  · rw [if_neg h1, decide_eq_false (by omega)]

-- sums
/-- The sum of the first i bytes, the weighted sum with weight n - j, and the sum of the sums. -/
def sA (s : ByteArray) : Nat → Int
  | 0 => 0
  | i + 1 => sA s i + bt s i
def sW (s : ByteArray) (n : Int) : Nat → Int
  | 0 => 0
  | i + 1 => sW s n i + bt s i * (n - i)
def sB (s : ByteArray) : Nat → Int
  | 0 => 0
  | i + 1 => sB s i + sA s (i + 1)
theorem sA_bd (s : ByteArray) : ∀ i : Nat, 0 ≤ sA s i ∧ sA s i ≤ 255 * i
  | 0 => by simp [sA]
  | i + 1 => by
    have := sA_bd s i
    have := bt_range s i
    simp only [sA]
    omega
theorem sW_bd (s : ByteArray) (n : Int) (hn : n ≤ 200) : ∀ i : Nat, (i : Int) ≤ n → 0 ≤ sW s n i ∧ sW s n i ≤ 51000 * i
  | 0, _ => by simp [sW]
  | i + 1, h => by
    have h1 := sW_bd s n hn i (by omega)
    have h2 := bt_range s i
    have h3 : 0 ≤ bt s i * (n - i) := Int.mul_nonneg h2.1 (by omega)
    have h4 : bt s i * (n - i) ≤ 255 * 200 := Int.mul_le_mul h2.2 (by omega) (by omega) (by omega)
    simp only [sW]
    omega
theorem sB_sW (s : ByteArray) (n : Int) : ∀ i : Nat, sB s i + (n - i) * sA s i = sW s n i
  | 0 => by simp [sA, sB, sW]
  | i + 1 => by
    have h := sB_sW s n i
    simp only [sB, sW, sA]
    have e : (n - ((i + 1 : Nat) : Int)) * (sA s i + bt s i) = (n - i) * sA s i + bt s i * (n - i) - (sA s i + bt s i) := by
      have : (n - ((i + 1 : Nat) : Int)) = (n - i) - 1 := by omega
      rw [this, Int.sub_mul, Int.mul_add, Int.one_mul, Int.mul_comm (bt s i)]
    rw [e]
    omega
theorem spec_sums_l (s : ByteArray) (d : Nat) : ∀ (k i : Nat), i + d = s.size → d < k → s.size ≤ 140737488351232 →
    spec_l1Sums.l0 k s (sA s i % 255) (sB s i % 255) i = some (sA s s.size % 255, sB s s.size % 255) := by
  induction d with
  | zero =>
    intro k i h hk hs
    obtain ⟨k, rfl⟩ : ∃ m, k = m + 1 := ⟨k - 1, by omega⟩
    simp only [spec_l1Sums.l0]
    rw [if_neg (by omega)]
    obtain rfl : i = s.size := by omega
    rfl
  | succ d ih =>
    intro k i h hk hs
    obtain ⟨k, rfl⟩ : ∃ m, k = m + 1 := ⟨k - 1, by omega⟩
    have hb := bt_range s i
    have h1 := ih k (i + 1) (by omega) (by omega) hs
    simp only [spec_l1Sums.l0]
    rw [if_pos (by omega), if_pos (by omega)]
    rw [w64 (x := bt s i) (by omega) (by omega), w64 (x := sA s i % 255 + bt s i) (by omega) (by omega), tm (by omega),
      w64 (x := sB s i % 255 + (sA s i % 255 + bt s i) % 255) (by omega) (by omega), tm (by omega), w64 (x := (i : Int) + 1) (by omega) (by omega)]
    have e1 : (sA s i % 255 + bt s i) % 255 = sA s (i + 1) % 255 := by simp only [sA]; omega
    have e2 : (sB s i % 255 + sA s (i + 1) % 255) % 255 = sB s (i + 1) % 255 := by simp only [sB]; omega
    rw [e1, e2]
    exact h1
theorem spec_sums (s : ByteArray) (k : Nat) (hk : s.size < k) (hs : s.size ≤ 140737488351232) :
    spec_l1Sums.f k s = some (sA s s.size % 255, sB s s.size % 255) := by
  have h := spec_sums_l s s.size k 0 (by omega) hk hs
  unfold spec_l1Sums.f
  simpa [sA, sB] using h
theorem impl_sums_l (s : ByteArray) (d : Nat) : ∀ (k i : Nat), i + d = s.size → d < k → s.size ≤ 200 →
    impl_sums.l0 k s (sA s i) (sW s s.size i) s.size i = some (sA s s.size % 255, sW s s.size s.size % 255) := by
  induction d with
  | zero =>
    intro k i h hk hs
    obtain ⟨k, rfl⟩ : ∃ m, k = m + 1 := ⟨k - 1, by omega⟩
    simp only [impl_sums.l0]
    rw [if_neg (by omega)]
    obtain rfl : i = s.size := by omega
    have := sA_bd s s.size
    have := sW_bd s s.size (by omega) s.size (by omega)
    rw [tm (by omega), tm (by omega)]
  | succ d ih =>
    intro k i h hk hs
    obtain ⟨k, rfl⟩ : ∃ m, k = m + 1 := ⟨k - 1, by omega⟩
    have hb := bt_range s i
    have h1 := ih k (i + 1) (by omega) (by omega) hs
    have ha := sA_bd s i
    have hw := sW_bd s s.size (by omega) i (by omega)
    have h3 : 0 ≤ bt s i * ((s.size : Int) - i) := Int.mul_nonneg hb.1 (by omega)
    have h4 : bt s i * ((s.size : Int) - i) ≤ 255 * 200 := Int.mul_le_mul hb.2 (by omega) (by omega) (by omega)
    simp only [impl_sums.l0]
    rw [if_pos (by omega), if_pos (by omega), if_pos (by omega)]
    rw [w64 (x := bt s i) (by omega) (by omega), w64 (x := sA s i + bt s i) (by omega) (by omega), w64 (x := (s.size : Int) - i) (by omega) (by omega),
      w64 (x := bt s i * ((s.size : Int) - i)) (by omega) (by omega), w64 (x := sW s s.size i + bt s i * ((s.size : Int) - i)) (by omega) (by omega), w64 (x := (i : Int) + 1) (by omega) (by omega)]
    exact h1
theorem impl_sums_f (s : ByteArray) (k : Nat) (hk : s.size < k) (hs : s.size ≤ 200) :
    impl_sums.f k s = some (sA s s.size % 255, sB s s.size % 255) := by
  have h := impl_sums_l s s.size k 0 (by omega) hk hs
  have e := sB_sW s s.size s.size
  have e2 : ((s.size : Int) - s.size) * sA s s.size = 0 := by rw [Int.sub_self, Int.zero_mul]
  unfold impl_sums.f
  rw [show sB s s.size = sW s s.size s.size by omega]
  simpa [sA, sW] using h

theorem mend_both (s : ByteArray) (i : Int) (k : Nat) (hs : s.size ≤ 140737488351232) (hk : s.size < k) (hi : -9223372036854775808 ≤ i ∧ i ≤ 9223372036854775807) :
    ∃ r : ByteArray × Bool, spec_MendByte.f (k + 1) s i = some r ∧ impl_MendByte.f (k + 1) s i = some r := by
  unfold spec_MendByte.f impl_MendByte.f
  rw [long_eq, within_eq s i 1 hi (by omega)]
  simp only [Option.bind_some, spec_MendByte.j0, if_true]
  by_cases h : s.size ≤ 200
  · rw [if_pos (decide_eq_true h)]
    by_cases h0 : i < 0
    · rw [if_pos h0, if_neg (by rw [decide_eq_true_eq]; omega)]
      exact ⟨_, rfl, rfl⟩
    · rw [if_neg h0]
      by_cases h1 : i ≥ (s.size : Int)
      · rw [if_pos (decide_eq_true h1), if_neg (by rw [decide_eq_true_eq]; omega)]
        exact ⟨_, rfl, rfl⟩
      · obtain ⟨n, rfl⟩ : ∃ n : Nat, i = (n : Int) := ⟨i.toNat, by omega⟩
        have hj : s.size ≤ 200 ∧ 0 ≤ (n : Int) ∧ (n : Int) < (s.size : Int) ∧ (n : Int) + 1 ≤ s.size := by omega
        rw [decide_eq_false h1, if_neg Bool.false_ne_true, if_pos (decide_eq_true hj)]
        have hb : n < (bytesOf s).length := by rw [bytesOf_length]; omega
        have hl : (strOfNums ((bytesOf s).set n 0)).size = s.size := by rw [strOfNums_size, List.length_set, bytesOf_length]
        have hw : ∀ y ∈ (bytesOf s).set n 0, 0 ≤ y ∧ y ≤ 255 := by
          have := set_in _ (bytes_in s) n 0
          rwa [show (0 : Int) % 256 = 0 from rfl] at this
        rw [with_eq s n _ h (by omega), withs_eq s n [0] h (by simp; omega), show (0 : Int) % 256 = 0 from rfl]
        simp only [Option.bind_some]
        rw [show [(0 : Int)].length = 1 from rfl, ← set_one _ _ _ hb, spec_sums _ _ (by omega) (by omega), impl_sums_f _ _ (by omega) (by omega)]
        simp only [Option.bind_some]
        generalize hx : Int.tmod (wrap64 (255 - sA (strOfNums ((bytesOf s).set n 0)) (strOfNums ((bytesOf s).set n 0)).size % 255)) 255 = x
        rw [with_eq _ n _ (by omega) (by omega), withs_eq s n [x % 256] h (by simp; omega), show [x % 256].length = 1 from rfl, ← set_one _ _ _ hb, bytes_str _ hw, List.set_set]
        exact ⟨_, rfl, rfl⟩
  · rw [decide_eq_false h, if_neg Bool.false_ne_true, if_neg (by rw [decide_eq_true_eq]; omega)]
    exact ⟨_, rfl, rfl⟩
theorem FnExactMendByte : laws_FnExactMendByte.PureS := by
  intro s i hs hi
  refine ⟨s.size + 2, ?_⟩
  obtain ⟨r, e1, e2⟩ := mend_both s i (s.size + 1) hs (by omega) (wf64 hi)
  unfold laws_FnExactMendByte.f
  by_cases h0 : (s.size : Int) > 1048576
  · rw [if_pos h0]
  · rw [if_neg h0, e1, e2]
    simp

end Go.Proofs.Ytmagnbbpbhmacaa.Pure
