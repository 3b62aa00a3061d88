/- FnSums answers true for all drawn texts. No condition beyond the row's own bounds. -/
import Derived.Test.YtmagnbbpbhmacaaSFnSums
namespace Go.Proofs.Ytmagnbbpbhmacaa.Pure
open Go.RowKit Go.Proofs.Ytmagnbbpbhmacaa.PFnSums Go.Proofs.YtmagnbbpbhmacaaW.PrintWords Go.Proofs.YtmagnbbpbhmacaaW.PrintLast
set_option linter.unusedVariables false
set_option linter.unusedSimpArgs false

-- w64
theorem w64 {x : Int} (h0 : -9223372036854775808 ≤ x) (h1 : x ≤ 9223372036854775807) : wrap64 x = x := by
  unfold wrap64
  omega
theorem tm {x y : Int} (h0 : 0 ≤ x) : Int.tmod x y = x % y := Int.tmod_eq_emod_of_nonneg h0
theorem wf64 {x : Int} (h : (Lit.int .i64 x).wf = true) : -9223372036854775808 ≤ x ∧ x ≤ 9223372036854775807 := by
  simp [Lit.wf, IntKind.min, IntKind.max, IntKind.signed, IntKind.bits] at h
  omega

-- withs0
theorem bytes_str (l : List Int) (h : ∀ x ∈ l, 0 ≤ x ∧ x ≤ 255) : bytesOf (strOfNums l) = l := by
  unfold bytesOf
  rw [strOfNums_data, List.map_map]
  conv => rhs; rw [← List.map_id l]
  apply List.map_congr_left
  intro x hx
  have := h x hx
  simp [Function.comp]
  omega
theorem str_bytes (s : ByteArray) : strOfNums (bytesOf s) = s := by
  have h : (strOfNums (bytesOf s)).data.toList = s.data.toList := by
    rw [strOfNums_data]
    unfold bytesOf
    rw [List.map_map]
    conv => rhs; rw [← List.map_id s.data.toList]
    apply List.map_congr_left
    intro x _
    simp [Function.comp]
  obtain ⟨⟨a⟩⟩ := s
  exact congrArg (fun l : List UInt8 => (⟨⟨l⟩⟩ : ByteArray)) h
theorem bytes_in (s : ByteArray) : ∀ x ∈ bytesOf s, 0 ≤ x ∧ x ≤ 255 := by
  intro x hx
  unfold bytesOf at hx
  obtain ⟨b, _, rfl⟩ := List.mem_map.1 hx
  have := b.toNat_lt
  omega
theorem str_app (a b : List Int) : strOfNums a ++ strOfNums b = strOfNums (a ++ b) := by
  have h : (strOfNums a ++ strOfNums b).data.toList = (strOfNums (a ++ b)).data.toList := by
    rw [strOfNums_data, ByteArray.data_append, Array.toList_append, strOfNums_data, strOfNums_data, List.map_append]
  generalize strOfNums a ++ strOfNums b = x at h
  generalize strOfNums (a ++ b) = y at h
  obtain ⟨⟨x⟩⟩ := x
  obtain ⟨⟨y⟩⟩ := y
  exact congrArg (fun l : List UInt8 => (⟨⟨l⟩⟩ : ByteArray)) h
theorem str_cut (s : ByteArray) (i j : Nat) (hj : j ≤ s.size) : s.extract i j = strOfNums (((bytesOf s).take j).drop i) := by
  have h : (s.extract i j).data.toList = (strOfNums (((bytesOf s).take j).drop i)).data.toList := by
    rw [strOfNums_data, ByteArray.data_extract, Array.toList_extract]
    unfold bytesOf
    rw [List.map_drop, List.map_take, List.map_map]
    rw [show (fun n : Int => UInt8.ofNat n.toNat) ∘ (fun b : UInt8 => (b.toNat : Int)) = id by funext b; simp [Function.comp]]
    rw [List.map_id]
    simp [List.extract, List.drop_take]
  generalize s.extract i j = x at h
  generalize strOfNums (((bytesOf s).take j).drop i) = y at h
  obtain ⟨⟨x⟩⟩ := x
  obtain ⟨⟨y⟩⟩ := y
  exact congrArg (fun l : List UInt8 => (⟨⟨l⟩⟩ : ByteArray)) h

-- withs
theorem with_eq (s : ByteArray) (i : Nat) (v : Int) (hs : s.size ≤ 200) (hi : i < s.size) : spec_l1With.f s i v = some (strOfNums ((bytesOf s).set i (v % 256))) := by
  unfold spec_l1With.f
  rw [if_pos (by omega), if_pos (by omega), if_pos (by omega), Int.toNat_natCast]
theorem withs_eq (s : ByteArray) (i : Nat) (l : List Int) (hs : s.size ≤ 200) (hi : i + l.length ≤ s.size) : impl_withBytes.f s i l = some (strOfNums ((bytesOf s).take i ++ l ++ (bytesOf s).drop (i + l.length))) := by
  have e1 : s.extract 0 ((i : Int)).toNat = strOfNums ((bytesOf s).take i) := by rw [Int.toNat_natCast, str_cut s 0 i (by omega)]; rfl
  have e2 : s.extract (((i + l.length : Nat) : Int)).toNat s.size = strOfNums ((bytesOf s).drop (i + l.length)) := by
    rw [Int.toNat_natCast, str_cut s _ _ (Nat.le_refl _), List.take_of_length_le (by rw [bytesOf_length]; exact Nat.le_refl _)]
  unfold impl_withBytes.f
  rw [w64 (x := (i : Int) + (l.length : Int)) (by omega) (by omega), show (i : Int) + (l.length : Int) = ((i + l.length : Nat) : Int) by omega, e1, e2, str_app, str_app]
  have h1 : (0 : Int) ≤ (i : Int) := by omega
  have h2 : (i : Int) ≤ (s.size : Int) := by omega
  have h3 : (strOfNums ((bytesOf s).take i)).size + (strOfNums l).size ≤ 9223372036854775807 := by rw [strOfNums_size, strOfNums_size, List.length_take]; omega
  have h4 : (0 : Int) ≤ ((i + l.length : Nat) : Int) := by omega
  have h5 : ((i + l.length : Nat) : Int) ≤ (s.size : Int) := by omega
  have h6 : (strOfNums ((bytesOf s).take i ++ l)).size + (strOfNums ((bytesOf s).drop (i + l.length))).size ≤ 9223372036854775807 := by rw [strOfNums_size, strOfNums_size, List.length_append, List.length_take, List.length_drop, bytesOf_length]; omega
  rw [if_pos h1, if_pos h2, if_pos h3, if_pos h4, if_pos h5, if_pos h6]
theorem set_one (l : List Int) (i : Nat) (x : Int) (hi : i < l.length) : l.set i x = l.take i ++ [x] ++ l.drop (i + 1) := by
  rw [List.set_eq_take_append_cons_drop, if_pos hi]
  simp
theorem set_two (l : List Int) (i : Nat) (x y : Int) (hi : i + 1 < l.length) : (l.set i x).set (i + 1) y = l.take i ++ [x, y] ++ l.drop (i + 2) := by
  apply List.ext_getElem?
  intro j
  rw [List.getElem?_set, List.getElem?_set, List.length_set]
  by_cases h1 : j < i
  · rw [if_neg (by omega), if_neg (by omega), List.append_assoc, List.getElem?_append_left (by rw [List.length_take]; omega), List.getElem?_take, if_pos h1]
  · by_cases h2 : j = i
    · subst h2
      rw [if_neg (by omega), if_pos rfl, if_pos (by omega), List.append_assoc, List.getElem?_append_right (by rw [List.length_take]; omega)]
      simp [List.length_take, show min j l.length = j by omega]
    · by_cases h3 : j = i + 1
      · subst h3
        rw [if_pos rfl, if_pos (by omega), List.append_assoc, List.getElem?_append_right (by rw [List.length_take]; omega)]
        simp [List.length_take, show min i l.length = i by omega]
      · rw [if_neg (by omega), if_neg (by omega), List.getElem?_append_right (by rw [List.length_append, List.length_take]; simp; omega), List.getElem?_drop]
        congr 1
        rw [List.length_append, List.length_take]
        simp
        omega
theorem set_in (l : List Int) (h : ∀ x ∈ l, 0 ≤ x ∧ x ≤ 255) (i : Nat) (x : Int) : ∀ y ∈ l.set i (x % 256), 0 ≤ y ∧ y ≤ 255 := by
  intro y hy
  rcases List.mem_or_eq_of_mem_set hy with hy | rfl
  · exact h y hy
  · omega
theorem long_eq (s : ByteArray) : spec_l1Long.f s = some (decide (s.size ≤ 200)) := by
  unfold spec_l1Long.f
  congr 1
  rw [decide_eq_decide]
  omega
theorem within_eq (s : ByteArray) (i n : Int) (hi : -9223372036854775808 ≤ i ∧ i ≤ 9223372036854775807) (hn : 0 ≤ n ∧ n ≤ 2) : impl_within.f s i n = some (decide (s.size ≤ 200 ∧ 0 ≤ i ∧ i < (s.size : Int) ∧ i + n ≤ s.size)) := by
  unfold impl_within.f
  by_cases h1 : (s.size : Int) ≤ 200
  · rw [if_pos h1]
    by_cases h2 : i ≥ 0
    · rw [if_pos h2]
      by_cases h3 : i < (s.size : Int)
      · rw [if_pos h3, w64 (by omega) (by omega)]
        congr 1
        rw [decide_eq_decide]
        omega
      · rw [if_neg h3, decide_eq_false (by omega)]
    · rw [if_neg h2, decide_eq_false (by omega)]
  · rw [if_neg h1, decide_eq_false (by omega)]

-- sums
/-- The sum of the first i bytes, the weighted sum with weight n - j, and the sum of the sums. -/
def sA (s : ByteArray) : Nat → Int
  | 0 => 0
  | i + 1 => sA s i + bt s i
def sW (s : ByteArray) (n : Int) : Nat → Int
  | 0 => 0
  | i + 1 => sW s n i + bt s i * (n - i)
def sB (s : ByteArray) : Nat → Int
  | 0 => 0
  | i + 1 => sB s i + sA s (i + 1)
theorem sA_bd (s : ByteArray) : ∀ i : Nat, 0 ≤ sA s i ∧ sA s i ≤ 255 * i
  | 0 => by simp [sA]
  | i + 1 => by
    have := sA_bd s i
    have := bt_range s i
    simp only [sA]
    omega
theorem sW_bd (s : ByteArray) (n : Int) (hn : n ≤ 200) : ∀ i : Nat, (i : Int) ≤ n → 0 ≤ sW s n i ∧ sW s n i ≤ 51000 * i
  | 0, _ => by simp [sW]
  | i + 1, h => by
    have h1 := sW_bd s n hn i (by omega)
    have h2 := bt_range s i
    have h3 : 0 ≤ bt s i * (n - i) := Int.mul_nonneg h2.1 (by omega)
    have h4 : bt s i * (n - i) ≤ 255 * 200 := Int.mul_le_mul h2.2 (by omega) (by omega) (by omega)
    simp only [sW]
    omega
theorem sB_sW (s : ByteArray) (n : Int) : ∀ i : Nat, sB s i + (n - i) * sA s i = sW s n i
  | 0 => by simp [sA, sB, sW]
  | i + 1 => by
    have h := sB_sW s n i
    simp only [sB, sW, sA]
    have e : (n - ((i + 1 : Nat) : Int)) * (sA s i + bt s i) = (n - i) * sA s i + bt s i * (n - i) - (sA s i + bt s i) := by
      have : (n - ((i + 1 : Nat) : Int)) = (n - i) - 1 := by omega
      rw [this, Int.sub_mul, Int.mul_add, Int.one_mul, Int.mul_comm (bt s i)]
    rw [e]
    omega
theorem spec_sums_l (s : ByteArray) (d : Nat) : ∀ (k i : Nat), i + d = s.size → d < k → s.size ≤ 140737488351232 →
    spec_l1Sums.l0 k s (sA s i % 255) (sB s i % 255) i = some (sA s s.size % 255, sB s s.size % 255) := by
  induction d with
  | zero =>
    intro k i h hk hs
    obtain ⟨k, rfl⟩ : ∃ m, k = m + 1 := ⟨k - 1, by omega⟩
    simp only [spec_l1Sums.l0]
    rw [if_neg (by omega)]
    obtain rfl : i = s.size := by omega
    rfl
  | succ d ih =>
    intro k i h hk hs
    obtain ⟨k, rfl⟩ : ∃ m, k = m + 1 := ⟨k - 1, by omega⟩
    have hb := bt_range s i
    have h1 := ih k (i + 1) (by omega) (by omega) hs
    simp only [spec_l1Sums.l0]
    rw [if_pos (by omega), if_pos (by omega)]
    rw [w64 (x := bt s i) (by omega) (by omega), w64 (x := sA s i % 255 + bt s i) (by omega) (by omega), tm (by omega),
      w64 (x := sB s i % 255 + (sA s i % 255 + bt s i) % 255) (by omega) (by omega), tm (by omega), w64 (x := (i : Int) + 1) (by omega) (by omega)]
    have e1 : (sA s i % 255 + bt s i) % 255 = sA s (i + 1) % 255 := by simp only [sA]; omega
    have e2 : (sB s i % 255 + sA s (i + 1) % 255) % 255 = sB s (i + 1) % 255 := by simp only [sB]; omega
    rw [e1, e2]
    exact h1
theorem spec_sums (s : ByteArray) (k : Nat) (hk : s.size < k) (hs : s.size ≤ 140737488351232) :
    spec_l1Sums.f k s = some (sA s s.size % 255, sB s s.size % 255) := by
  have h := spec_sums_l s s.size k 0 (by omega) hk hs
  unfold spec_l1Sums.f
  simpa [sA, sB] using h
theorem impl_sums_l (s : ByteArray) (d : Nat) : ∀ (k i : Nat), i + d = s.size → d < k → s.size ≤ 200 →
    impl_sums.l0 k s (sA s i) (sW s s.size i) s.size i = some (sA s s.size % 255, sW s s.size s.size % 255) := by
  induction d with
  | zero =>
    intro k i h hk hs
    obtain ⟨k, rfl⟩ : ∃ m, k = m + 1 := ⟨k - 1, by omega⟩
    simp only [impl_sums.l0]
    rw [if_neg (by omega)]
    obtain rfl : i = s.size := by omega
    have := sA_bd s s.size
    have := sW_bd s s.size (by omega) s.size (by omega)
    rw [tm (by omega), tm (by omega)]
  | succ d ih =>
    intro k i h hk hs
    obtain ⟨k, rfl⟩ : ∃ m, k = m + 1 := ⟨k - 1, by omega⟩
    have hb := bt_range s i
    have h1 := ih k (i + 1) (by omega) (by omega) hs
    have ha := sA_bd s i
    have hw := sW_bd s s.size (by omega) i (by omega)
    have h3 : 0 ≤ bt s i * ((s.size : Int) - i) := Int.mul_nonneg hb.1 (by omega)
    have h4 : bt s i * ((s.size : Int) - i) ≤ 255 * 200 := Int.mul_le_mul hb.2 (by omega) (by omega) (by omega)
    simp only [impl_sums.l0]
    rw [if_pos (by omega), if_pos (by omega), if_pos (by omega)]
    rw [w64 (x := bt s i) (by omega) (by omega), w64 (x := sA s i + bt s i) (by omega) (by omega), w64 (x := (s.size : Int) - i) (by omega) (by omega),
      w64 (x := bt s i * ((s.size : Int) - i)) (by omega) (by omega), w64 (x := sW s s.size i + bt s i * ((s.size : Int) - i)) (by omega) (by omega), w64 (x := (i : Int) + 1) (by omega) (by omega)]
    exact h1
theorem impl_sums_f (s : ByteArray) (k : Nat) (hk : s.size < k) (hs : s.size ≤ 200) :
    impl_sums.f k s = some (sA s s.size % 255, sB s s.size % 255) := by
  have h := impl_sums_l s s.size k 0 (by omega) hk hs
  have e := sB_sW s s.size s.size
  have e2 : ((s.size : Int) - s.size) * sA s s.size = 0 := by rw [Int.sub_self, Int.zero_mul]
  unfold impl_sums.f
  rw [show sB s s.size = sW s s.size s.size by omega]
  simpa [sA, sW] using h

-- sumset
/-- The weighted sum of a list, with the weight n at its first place. -/
def lw (n : Int) : List Int → Int
  | [] => 0
  | x :: l => x * n + lw (n - 1) l
theorem lw_app : ∀ (a b : List Int) (n : Int), lw n (a ++ b) = lw n a + lw (n - a.length) b
  | [], b, n => by simp [lw]
  | x :: a, b, n => by
    rw [List.cons_append, lw, lw, lw_app a b, List.length_cons, show n - 1 - (a.length : Int) = n - ((a.length + 1 : Nat) : Int) by omega]
    omega
theorem bt_bytes (s : ByteArray) (i : Nat) (h : i < s.size) : (bytesOf s)[i]? = some (bt s i) := by
  have h2 : i < s.data.toList.length := h
  unfold bytesOf bt
  rw [List.getElem?_map, List.getElem?_eq_getElem h2, Option.map_some, dif_pos (show ((i : Int)).toNat < s.size from h)]
  rfl
theorem take_next (s : ByteArray) (i : Nat) (h : i < s.size) : (bytesOf s).take (i + 1) = (bytesOf s).take i ++ [bt s i] := by
  have hl : i < (bytesOf s).length := by rw [bytesOf_length]; exact h
  have e := bt_bytes s i h
  rw [List.getElem?_eq_getElem hl] at e
  rw [List.take_succ_eq_append_getElem hl, Option.some.inj e]
theorem sA_take (s : ByteArray) : ∀ i : Nat, i ≤ s.size → sA s i = ((bytesOf s).take i).sum
  | 0, _ => by simp [sA]
  | i + 1, h => by
    rw [sA, sA_take s i (by omega), take_next s i (by omega), List.sum_append]
    simp
theorem sW_take (s : ByteArray) (n : Int) : ∀ i : Nat, i ≤ s.size → sW s n i = lw n ((bytesOf s).take i)
  | 0, _ => by simp [sW, lw]
  | i + 1, h => by
    rw [sW, sW_take s n i (by omega), take_next s i (by omega), lw_app, lw, lw, List.length_take, bytesOf_length, show min i s.size = i by omega]
    omega
theorem sA_sum (s : ByteArray) : sA s s.size = (bytesOf s).sum := by
  rw [sA_take s s.size (Nat.le_refl _), List.take_of_length_le (by rw [bytesOf_length]; exact Nat.le_refl _)]
theorem sB_sum (s : ByteArray) : sB s s.size = lw s.size (bytesOf s) := by
  have e := sB_sW s s.size s.size
  have e2 : ((s.size : Int) - s.size) * sA s s.size = 0 := by rw [Int.sub_self, Int.zero_mul]
  have e3 := sW_take s s.size s.size (Nat.le_refl _)
  rw [List.take_of_length_le (by rw [bytesOf_length]; exact Nat.le_refl _)] at e3
  omega
theorem sum_two (l : List Int) (i : Nat) (x y : Int) (h : i + 1 < l.length) : ((l.set i x).set (i + 1) y).sum = ((l.set i 0).set (i + 1) 0).sum + x + y := by
  rw [set_two l i x y h, set_two l i 0 0 h, List.sum_append, List.sum_append, List.sum_append, List.sum_append]
  simp
  omega
theorem lw_two (l : List Int) (i : Nat) (x y : Int) (n : Int) (h : i + 1 < l.length) : lw n ((l.set i x).set (i + 1) y) = lw n ((l.set i 0).set (i + 1) 0) + x * (n - i) + y * (n - i - 1) := by
  rw [set_two l i x y h, set_two l i 0 0 h, lw_app, lw_app, lw_app, lw_app]
  simp only [lw, List.length_append, List.length_take, List.length_cons, List.length_nil]
  rw [show min i l.length = i by omega]
  omega
theorem sum_one (l : List Int) (i : Nat) (x : Int) (h : i < l.length) : (l.set i x).sum = (l.set i 0).sum + x := by
  rw [set_one l i x h, set_one l i 0 h, List.sum_append, List.sum_append, List.sum_append, List.sum_append]
  simp
  omega

-- dropi
theorem drop_i (l : List Int) (i : Nat) (h : i < l.length) : l.drop i = rd l i :: l.drop (i + 1) := by
  unfold rd
  rw [Int.toNat_natCast, List.getD_eq_getElem?_getD, List.getElem?_eq_getElem h]
  exact List.drop_eq_getElem_cons h
theorem rd_mem (l : List Int) (i : Nat) (h : i < l.length) : rd l i ∈ l := by
  unfold rd
  rw [Int.toNat_natCast, List.getD_eq_getElem?_getD, List.getElem?_eq_getElem h]
  exact List.getElem_mem h

-- draws
theorem wraps_u64 (n : Int) (h₀ : 0 ≤ n) (h₁ : n < 2 ^ 24) : IntKind.u64.wrap n = n := by
  have h : n < 16777216 := h₁
  rw [IntKind.wrap_u64]
  omega
theorem letterOf (y : Int) : 0 ≤ wrap64 (Go.bits .and .u64 (IntKind.u64.wrap y / 1099511627776) 255) ∧ wrap64 (Go.bits .and .u64 (IntKind.u64.wrap y / 1099511627776) 255) ≤ 255 := by
  have hw := IntKind.wrap_u64 y
  have e : Go.bits .and .u64 (IntKind.u64.wrap y / 1099511627776) 255 = (IntKind.u64.wrap y / 1099511627776) % 256 :=
    bits_mask .u64 24 (by decide) wraps_u64 8 (by decide) _ (by omega) (by show _ < (16777216 : Int); omega)
  rw [e, w64 (by omega) (by omega)]
  omega
/-- The bytes that a drawer reads. -/
def Drawn (l : List Int) : Prop := (∀ x ∈ l, 0 ≤ x ∧ x ≤ 255) ∧ l.length ≤ 1125899906842624
theorem draw_next (l : List Int) (hl : Drawn l) (p st : Int) (h0 : 0 ≤ p) (h1 : p ≤ 1125899906842624) : ∃ v q, spec_l1Cur_next.f l p st = some (v, p + 1, q) ∧ 0 ≤ v ∧ v ≤ 255 := by
  obtain ⟨hl, hn⟩ := hl
  unfold spec_l1Cur_next.f
  rw [w64 (x := p + 1) (by omega) (by omega)]
  by_cases h : p < (l.length : Int)
  · have hm := hl _ (rd_mem l p.toNat (by omega))
    rw [Int.toNat_of_nonneg h0] at hm
    rw [if_pos h, if_pos h0, if_pos (by omega), w64 (x := rd l p) (by omega) (by omega)]
    exact ⟨_, _, rfl, hm⟩
  · rw [if_neg h, if_neg (by omega)]
    exact ⟨_, _, rfl, letterOf _⟩
theorem draw_pick (l : List Int) (hl : Drawn l) (p st n : Int) (h0 : 0 ≤ p) (h1 : p ≤ 1000000000000) (hn : 1 ≤ n) : ∃ v p' q, spec_l1Cur_pick.f l p st n = some (v, p', q) ∧ (0 ≤ v ∧ v < n) ∧ p ≤ p' ∧ p' ≤ p + 2 := by
  unfold spec_l1Cur_pick.f
  by_cases h : n ≤ 1
  · rw [if_pos h]
    exact ⟨_, _, _, rfl, by omega, by omega, by omega⟩
  · obtain ⟨a, q, e, ha⟩ := draw_next l hl p st h0 (by omega)
    rw [if_neg h, e]
    simp only [Option.bind_some]
    by_cases h2 : n > 200
    · obtain ⟨b, q2, e2, hb⟩ := draw_next l hl (p + 1) q (by omega) (by omega)
      rw [if_pos h2, e2]
      simp only [Option.bind_some]
      rw [if_neg (by omega), w64 (x := a * 256) (by omega) (by omega), w64 (by omega) (by omega), tm (by omega)]
      exact ⟨_, _, _, rfl, ⟨Int.emod_nonneg _ (by omega), Int.emod_lt_of_pos _ (by omega)⟩, by omega, by omega⟩
    · rw [if_neg h2, if_neg (by omega), tm (by omega)]
      exact ⟨_, _, _, rfl, ⟨Int.emod_nonneg _ (by omega), Int.emod_lt_of_pos _ (by omega)⟩, by omega, by omega⟩
theorem draw_among (l : List Int) (hl : Drawn l) (p st : Int) (m : List Int) (h0 : 0 ≤ p) (h1 : p ≤ 1000000000000) (hm : 1 ≤ m.length) : ∃ v p' q, spec_l1Cur_among.f l p st m = some (v, p', q) ∧ v ∈ m ∧ p ≤ p' ∧ p' ≤ p + 2 := by
  obtain ⟨v, p', q, e, hv, hp⟩ := draw_pick l hl p st (m.length : Int) h0 h1 (by omega)
  unfold spec_l1Cur_among.f
  rw [e]
  simp only [Option.bind_some]
  rw [if_pos hv.1, if_pos hv.2]
  refine ⟨_, _, _, rfl, ?_, hp⟩
  have := rd_mem m v.toNat (by omega)
  rwa [Int.toNat_of_nonneg hv.1] at this

-- drawone
theorem draw_one (l : List Int) (hl : Drawn l) (p st n : Int) (h0 : 0 ≤ p) (h1 : p ≤ 1000000000000) (hn : 1 ≤ n) : ∃ b p' q, spec_l1Cur_one.f l p st n = some (b, p', q) ∧ p ≤ p' ∧ p' ≤ p + 2 := by
  obtain ⟨v, p', q, e, _, hp⟩ := draw_pick l hl p st n h0 h1 hn
  unfold spec_l1Cur_one.f
  rw [e]
  exact ⟨_, _, _, rfl, hp⟩

-- drawtext
theorem draw_text_l (l : List Int) (hl : Drawn l) (N : Nat) (hN : N ≤ 201) (d : Nat) : ∀ (x : List Int) (i : Nat) (p st : Int), i + d = N → x.length = N → 0 ≤ p → p + 2 * d ≤ 1000 →
    ∃ s p' q, (∀ k, d < k → spec_l1Cur_text.l0 k x N i l p st = some (s, p', q)) ∧ s.size = N ∧ p ≤ p' ∧ p' ≤ p + 2 * d := by
  induction d with
  | zero =>
    intro x i p st hi hx h0 h1
    refine ⟨strOfNums x, p, st, fun k hk => ?_, by rw [strOfNums_size]; exact hx, by omega, by omega⟩
    obtain ⟨k, rfl⟩ : ∃ m, k = m + 1 := ⟨k - 1, by omega⟩
    rw [spec_l1Cur_text.l0, if_neg (by omega)]
  | succ d ih =>
    intro x i p st hi hx h0 h1
    obtain ⟨v, p1, q1, e1, hv, hp1⟩ := draw_pick l hl p st 256 h0 (by omega) (by omega)
    obtain ⟨s, p2, q2, e2, hs, hp2⟩ := ih (x.set i (v % 256)) (i + 1) p1 q1 (by omega) (by rw [List.length_set]; exact hx) (by omega) (by omega)
    refine ⟨s, p2, q2, fun k hk => ?_, hs, by omega, by omega⟩
    obtain ⟨k, rfl⟩ : ∃ m, k = m + 1 := ⟨k - 1, by omega⟩
    rw [spec_l1Cur_text.l0, if_pos (by omega), e1]
    simp only [Option.bind_some]
    rw [if_pos (by omega), if_pos (by omega), w64 (by omega) (by omega), show ((i : Int) + 1) = ((i + 1 : Nat) : Int) by omega, Int.toNat_natCast]
    exact e2 k (by omega)
theorem draw_text (l : List Int) (hl : Drawn l) (p st : Int) (h0 : 0 ≤ p) (h1 : p ≤ 500) : ∃ s p' q, (∀ k, 300 < k → spec_l1Cur_text.f k l p st = some (s, p', q)) ∧ s.size ≤ 201 ∧ p ≤ p' ∧ p' ≤ p + 50 := by
  obtain ⟨b, p1, q1, e1, hp1⟩ := draw_one l hl p st 20 h0 (by omega) (by omega)
  cases b
  · obtain ⟨n, p2, q2, e2, hn, hp2⟩ := draw_pick l hl p1 q1 14 (by omega) (by omega) (by omega)
    obtain ⟨s, p3, q3, e3, hs, hp3⟩ := draw_text_l l hl n.toNat (by omega) n.toNat (List.replicate n.toNat 0) 0 p2 q2 (by omega) (by simp) (by omega) (by omega)
    refine ⟨s, p3, q3, fun k hk => ?_, by omega, by omega, by omega⟩
    unfold spec_l1Cur_text.f
    rw [e1]
    simp only [Option.bind_some]
    rw [if_neg (by decide), e2]
    simp only [Option.bind_some]
    rw [if_pos hn.1, if_pos (by omega), List.length_replicate]
    exact e3 k (by omega)
  · obtain ⟨n, p2, q2, e2, hn, hp2⟩ := draw_among l hl p1 q1 [199, 200, 201] (by omega) (by omega) (by simp)
    have hn2 : 199 ≤ n ∧ n ≤ 201 := by
      simp only [List.mem_cons, List.not_mem_nil, or_false] at hn
      omega
    refine ⟨strOfNums (List.replicate n.toNat 0), p2, q2, fun k hk => ?_, by rw [strOfNums_size, List.length_replicate]; omega, by omega, by omega⟩
    unfold spec_l1Cur_text.f
    rw [e1]
    simp only [Option.bind_some]
    rw [if_pos trivial, e2]
    simp only [Option.bind_some]
    rw [if_pos (by omega), if_pos (by omega)]
theorem draw_fill (l : List Int) (hl : Drawn l) : ∃ (s : ByteArray) (i : Int), (∀ k, 300 < k → spec_DrawFillSum.f k l = some (s, i)) ∧ s.size ≤ 201 ∧ -1 ≤ i ∧ i ≤ s.size := by
  obtain ⟨s, p1, q1, e1, hs, hp1⟩ := draw_text l hl 0 0 (by omega) (by omega)
  obtain ⟨v, p2, q2, e2, hv, hp2⟩ := draw_pick l hl p1 q1 ((s.size : Int) + 2) (by omega) (by omega) (by omega)
  have h0 : wrap64 ((s.size : Int) + 2) = (s.size : Int) + 2 := w64 (by omega) (by omega)
  have h1 : wrap64 (v - 1) = v - 1 := w64 (by omega) (by omega)
  refine ⟨s, v - 1, fun k hk => ?_, hs, by omega, by omega⟩
  refine Option.bind_eq_some_iff.2 ⟨(s, p1, q1), e1 k hk, Option.bind_eq_some_iff.2 ⟨(v, p2, q2), ?_, ?_⟩⟩
  · show spec_l1Cur_pick.f l p1 q1 (wrap64 ((s.size : Int) + 2)) = _
    rw [h0]
    exact e2
  · show some (s, wrap64 (v - 1)) = _
    rw [h1]

-- numberof
theorem number_l (l : List Int) (hl : Drawn l) (d : Nat) : ∀ (i : Nat) (x : Int), i + d = l.length → 0 ≤ x ∧ x < 1000003 → ∃ r, (∀ k, d < k → laws_numberOf.l0 k x l l.length i = some r) ∧ 0 ≤ r ∧ r < 1000003 := by
  have hn := hl.2
  induction d with
  | zero =>
    intro i x h hx
    refine ⟨x, fun k hk => ?_, hx⟩
    obtain ⟨k, rfl⟩ : ∃ m, k = m + 1 := ⟨k - 1, by omega⟩
    simp only [laws_numberOf.l0]
    rw [if_neg (by omega)]
  | succ d ih =>
    intro i x h hx
    have hm := hl.1 _ (rd_mem l i (by omega))
    obtain ⟨r, hr, hs⟩ := ih (i + 1) ((31 * x + rd l i) % 1000003) (by omega) (by omega)
    refine ⟨r, fun k hk => ?_, hs⟩
    obtain ⟨k, rfl⟩ : ∃ m, k = m + 1 := ⟨k - 1, by omega⟩
    simp only [laws_numberOf.l0]
    rw [if_pos (by omega), if_pos (by omega), if_pos (by omega), w64 (x := (i : Int) + 1) (by omega) (by omega), show ((i : Int) + 1) = ((i + 1 : Nat) : Int) by omega,
      w64 (x := 31 * x) (by omega) (by omega), w64 (x := rd l i) (by omega) (by omega), w64 (by omega) (by omega), tm (by omega)]
    exact hr k (by omega)
theorem number_of (l : List Int) (hl : Drawn l) : ∃ r, (∀ k, l.length < k → laws_numberOf.f k l = some r) ∧ 0 ≤ r ∧ r < 1000003 := by
  unfold laws_numberOf.f
  simpa using number_l l hl l.length 0 0 (by omega) (by omega)

-- all4k
theorem all4k (k : Nat) (a b c d : Int) : spec_l1All.f (k + 5) ([a, b, c, d] : List Int) 0 254 = some (decide ((0 ≤ a ∧ a ≤ 254) ∧ (0 ≤ b ∧ b ≤ 254) ∧ (0 ≤ c ∧ c ≤ 254) ∧ (0 ≤ d ∧ d ≤ 254))) := by
  unfold spec_l1All.f
  have w1 : wrap64 (0 + 1) = 1 := w64 (by omega) (by omega)
  have w2 : wrap64 (1 + 1) = 2 := w64 (by omega) (by omega)
  have w3 : wrap64 (2 + 1) = 3 := w64 (by omega) (by omega)
  have w4 : wrap64 (3 + 1) = 4 := w64 (by omega) (by omega)
  have r0 : rd [a, b, c, d] 0 = a := rfl
  have r1 : rd [a, b, c, d] 1 = b := rfl
  have r2 : rd [a, b, c, d] 2 = c := rfl
  have r3 : rd [a, b, c, d] 3 = d := rfl
  simp only [spec_l1All.l0, spec_l1In.f, w1, w2, w3, w4, r0, r1, r2, r3, List.length_cons, List.length_nil]
  by_cases a0 : 0 ≤ a
  · by_cases a1 : a ≤ 254
    · by_cases b0 : 0 ≤ b
      · by_cases b1 : b ≤ 254
        · by_cases c0 : 0 ≤ c
          · by_cases c1 : c ≤ 254
            · by_cases d0 : 0 ≤ d
              · by_cases d1 : d ≤ 254
                · simp [a0, a1, b0, b1, c0, c1, d0, d1]
                · simp [a0, a1, b0, b1, c0, c1, d0, d1]
              · simp [a0, a1, b0, b1, c0, c1, d0]
            · simp [a0, a1, b0, b1, c0, c1]
          · simp [a0, a1, b0, b1, c0]
        · simp [a0, a1, b0, b1]
      · simp [a0, a1, b0]
    · simp [a0, a1]
  · simp [a0]

/-- What SumOf tells. -/
def sumI (s : ByteArray) : Int × Int × Bool := if s.size ≤ 200 then ((bytesOf s).sum % 255, lw s.size (bytesOf s) % 255, true) else (0, 0, false)
theorem sum_spec (s : ByteArray) (k : Nat) (hk : s.size < k) (hs : s.size ≤ 140737488351232) : spec_SumOf.f k s = some (sumI s) := by
  unfold spec_SumOf.f sumI
  rw [long_eq, spec_sums s k hk hs, sA_sum, sB_sum]
  by_cases h : s.size ≤ 200
  · rw [if_pos h, decide_eq_true h]; rfl
  · rw [if_neg h, decide_eq_false h]; rfl
theorem sum_impl (s : ByteArray) (k : Nat) (hk : s.size < k) : impl_SumOf.f k s = some (sumI s) := by
  unfold impl_SumOf.f sumI
  by_cases h : s.size ≤ 200
  · rw [if_pos h, if_neg (by omega), impl_sums_f s k hk h, sA_sum, sB_sum]; rfl
  · rw [if_neg h, if_pos (by omega)]
theorem sum_yes (s : ByteArray) (h : s.size ≤ 200) : sumI s = ((bytesOf s).sum % 255, lw s.size (bytesOf s) % 255, true) := by
  unfold sumI
  rw [if_pos h]
/-- What AddSums tells. -/
def addI (a b c d e : Int) : Int × Int × Bool := if ((0 ≤ a ∧ a ≤ 254) ∧ (0 ≤ b ∧ b ≤ 254) ∧ (0 ≤ c ∧ c ≤ 254) ∧ (0 ≤ d ∧ d ≤ 254)) ∧ (0 ≤ e ∧ e ≤ 200) then ((a + c) % 255, (b + d + e * a) % 255, true) else (0, 0, false)
theorem add_both (k : Nat) (a b c d e : Int) : spec_AddSums.f (k + 5) a b c d e = some (addI a b c d e) ∧ impl_AddSums.f a b c d e = some (addI a b c d e) := by
  unfold spec_AddSums.f impl_AddSums.f addI
  rw [all4k]
  unfold spec_l1In.f impl_in.f
  by_cases h : (0 ≤ a ∧ a ≤ 254) ∧ (0 ≤ b ∧ b ≤ 254) ∧ (0 ≤ c ∧ c ≤ 254) ∧ (0 ≤ d ∧ d ≤ 254)
  · obtain ⟨⟨a0, a1⟩, ⟨b0, b1⟩, ⟨c0, c1⟩, d0, d1⟩ := h
    by_cases h2 : 0 ≤ e ∧ e ≤ 200
    · obtain ⟨e0, e1⟩ := h2
      have m0 : 0 ≤ e * a := Int.mul_nonneg e0 a0
      have m1 : e * a ≤ 200 * 254 := Int.mul_le_mul e1 a1 a0 (by omega)
      have t0 : wrap64 (a + c) = a + c := w64 (by omega) (by omega)
      have t1 : wrap64 (wrap64 (b + d) + wrap64 (e * a)) = b + d + e * a := by rw [w64 (x := b + d) (by omega) (by omega), w64 (x := e * a) (by omega) (by omega), w64 (by omega) (by omega)]
      have t2 : wrap64 (wrap64 (b + wrap64 (a * e)) + d) = b + d + e * a := by
        rw [Int.mul_comm a e, w64 (x := e * a) (by omega) (by omega), w64 (x := b + e * a) (by omega) (by omega), w64 (by omega) (by omega)]
        omega
      have q0 : Int.tmod (a + c) 255 = (a + c) % 255 := tm (by omega)
      have q1 : Int.tmod (b + d + e * a) 255 = (b + d + e * a) % 255 := tm (by omega)
      simp [a0, a1, b0, b1, c0, c1, d0, d1, e0, e1, t0, t1, t2, q0, q1]
    · by_cases e0 : 0 ≤ e
      · simp [a0, a1, b0, b1, c0, c1, d0, d1, e0, show ¬ e ≤ 200 by omega]
      · simp [a0, a1, b0, b1, c0, c1, d0, d1, e0]
  · have hno : ¬ (((0 ≤ a ∧ a ≤ 254) ∧ (0 ≤ b ∧ b ≤ 254) ∧ (0 ≤ c ∧ c ≤ 254) ∧ (0 ≤ d ∧ d ≤ 254)) ∧ (0 ≤ e ∧ e ≤ 200)) := fun g => h g.1
    rw [decide_eq_false h]
    simp only [if_neg hno]
    simp only [Option.bind_some, Bool.false_eq_true, if_false, ge_iff_le]
    refine ⟨trivial, ?_⟩
    by_cases a0 : 0 ≤ a
    · by_cases a1 : a ≤ 254
      · by_cases b0 : 0 ≤ b
        · by_cases b1 : b ≤ 254
          · by_cases c0 : 0 ≤ c
            · by_cases c1 : c ≤ 254
              · by_cases d0 : 0 ≤ d
                · by_cases d1 : d ≤ 254
                  · exact absurd ⟨⟨a0, a1⟩, ⟨b0, b1⟩, ⟨c0, c1⟩, d0, d1⟩ h
                  · simp [a0, a1, b0, b1, c0, c1, d0, d1]
                · simp [a0, a1, b0, b1, c0, c1, d0]
              · simp [a0, a1, b0, b1, c0, c1]
            · simp [a0, a1, b0, b1, c0]
          · simp [a0, a1, b0, b1]
        · simp [a0, a1, b0]
      · simp [a0, a1]
    · simp [a0]
/-- What WeightAt tells. -/
def wgtI (s : ByteArray) (i : Int) : Int × Bool := if s.size ≤ 200 ∧ 0 ≤ i ∧ i < (s.size : Int) then ((s.size : Int) - i, true) else (0, false)
theorem wgt_both (s : ByteArray) (i : Int) (hi : -9223372036854775808 ≤ i ∧ i ≤ 9223372036854775000) : spec_WeightAt.f s i = some (wgtI s i) ∧ impl_WeightAt.f s i = some (wgtI s i) := by
  unfold spec_WeightAt.f impl_WeightAt.f wgtI
  rw [long_eq, within_eq s i 1 (by omega) (by omega)]
  simp only [Option.bind_some]
  by_cases h : s.size ≤ 200 ∧ 0 ≤ i ∧ i < (s.size : Int)
  · obtain ⟨h1, h2, h3⟩ := h
    have e : wrap64 ((s.size : Int) - i) = (s.size : Int) - i := w64 (by omega) (by omega)
    have hc : s.size ≤ 200 ∧ 0 ≤ i ∧ i < (s.size : Int) := ⟨h1, h2, h3⟩
    have hd : s.size ≤ 200 ∧ 0 ≤ i ∧ i < (s.size : Int) ∧ i + 1 ≤ s.size := by omega
    have n1 : ¬ i < 0 := by omega
    have n2 : ¬ i ≥ (s.size : Int) := by omega
    simp only [if_pos hc, decide_eq_true h1, decide_eq_true hd, e, if_true, if_neg n1, if_neg n2]
    exact ⟨trivial, trivial⟩
  · rw [if_neg h, decide_eq_false (show ¬ (s.size ≤ 200 ∧ 0 ≤ i ∧ i < (s.size : Int) ∧ i + 1 ≤ s.size) by omega)]
    refine ⟨?_, rfl⟩
    by_cases h1 : s.size ≤ 200
    · rw [decide_eq_true h1, if_pos rfl]
      by_cases h2 : i < 0
      · rw [if_pos h2]
      · rw [if_neg h2, if_pos (by omega)]
    · rw [decide_eq_false h1]
      rfl
theorem swap_is (s : ByteArray) (i : Int) (k : Nat) (hs : s.size ≤ 140737488351232) (hi : -9223372036854775808 ≤ i ∧ i ≤ 9223372036854775807) :
    ∃ r : ByteArray × Bool, spec_SwapTwo.f (k + 1) s i = some r ∧ impl_SwapTwo.f s i = some r ∧ (r.2 = true → s.size ≤ 200 ∧ ∃ n : Nat, i = (n : Int) ∧ n + 1 < s.size ∧ r.1 = strOfNums (((bytesOf s).set n (bt s (n + 1 : Nat))).set (n + 1) (bt s n))) := by
  unfold spec_SwapTwo.f impl_SwapTwo.f
  rw [long_eq, within_eq s i 2 hi (by omega)]
  simp only [Option.bind_some, spec_SwapTwo.j0, if_true]
  by_cases h : s.size ≤ 200
  · rw [if_pos (decide_eq_true h), w64 (x := (s.size : Int) - 1) (by omega) (by omega)]
    by_cases h0 : i < 0
    · rw [if_pos h0, if_neg (by rw [decide_eq_true_eq]; omega)]
      exact ⟨_, rfl, rfl, fun h => absurd h (by decide)⟩
    · rw [if_neg h0]
      by_cases h1 : i ≥ (s.size : Int) - 1
      · rw [if_pos (decide_eq_true h1), if_neg (by rw [decide_eq_true_eq]; omega)]
        exact ⟨_, rfl, rfl, fun h => absurd h (by decide)⟩
      · obtain ⟨n, rfl⟩ : ∃ n : Nat, i = (n : Int) := ⟨i.toNat, by omega⟩
        have b1 := bt_range s ((n : Int) + 1)
        have b0 := bt_range s (n : Int)
        have hj : s.size ≤ 200 ∧ 0 ≤ (n : Int) ∧ (n : Int) < (s.size : Int) ∧ (n : Int) + 2 ≤ s.size := by omega
        rw [decide_eq_false h1, if_neg Bool.false_ne_true, if_pos (decide_eq_true hj), w64 (x := (n : Int) + 1) (by omega) (by omega)]
        have g1 : (0 : Int) ≤ (n : Int) + 1 := by omega
        have g2 : (n : Int) + 1 < (s.size : Int) := by omega
        have g3 : (0 : Int) ≤ (n : Int) := by omega
        have g4 : (n : Int) < (s.size : Int) := by omega
        rw [if_pos g1, if_pos g2, if_pos g1, if_pos g2, if_pos g3, if_pos g4, w64 (x := bt s ((n : Int) + 1)) (by omega) (by omega), w64 (x := bt s (n : Int)) (by omega) (by omega),
          with_eq s n _ h (by omega), withs_eq s n [bt s ((n : Int) + 1), bt s (n : Int)] h (by simp; omega)]
        simp only [Option.bind_some]
        rw [if_pos g3, if_pos g4]
        have hl : (strOfNums ((bytesOf s).set n (bt s ((n : Int) + 1) % 256))).size = s.size := by rw [strOfNums_size, List.length_set, bytesOf_length]
        have e1 : (n : Int) + 1 = ((n + 1 : Nat) : Int) := by omega
        rw [e1] at hl b1 ⊢
        have hb : n + 1 < (bytesOf s).length := by rw [bytesOf_length]; omega
        rw [with_eq _ (n + 1) _ (by omega) (by omega), bytes_str _ (set_in _ (bytes_in s) _ _), show bt s ((n + 1 : Nat) : Int) % 256 = bt s ((n + 1 : Nat) : Int) by omega, show bt s (n : Int) % 256 = bt s (n : Int) by omega]
        refine ⟨_, rfl, ?_, fun _ => ⟨h, n, rfl, by omega, rfl⟩⟩
        rw [show [bt s ((n + 1 : Nat) : Int), bt s (n : Int)].length = 2 from rfl, ← set_two _ _ _ _ hb]
  · rw [decide_eq_false h, if_neg Bool.false_ne_true, if_neg (by rw [decide_eq_true_eq]; omega)]
    exact ⟨_, rfl, rfl, fun h => absurd h (by decide)⟩
theorem lw_more : ∀ (l : List Int) (n m : Int), lw (n + m) l = lw n l + m * l.sum
  | [], n, m => by simp [lw]
  | x :: l, n, m => by
    have e : x * (n + m) = x * n + m * x := by rw [Int.mul_add, Int.mul_comm x m]
    rw [lw, lw, List.sum_cons, show n + m - 1 = (n - 1) + m by omega, lw_more l, e, Int.mul_add]
    omega
theorem sum_nn (l : List Int) (h : ∀ x ∈ l, 0 ≤ x ∧ x ≤ 255) : 0 ≤ l.sum := by
  induction l with
  | nil => simp
  | cons x l ih =>
    have := ih fun y hy => h y (List.mem_cons_of_mem _ hy)
    have := h x List.mem_cons_self
    rw [List.sum_cons]
    omega
/-- Both sums of a text, of those of its halves. -/
theorem halves (s : ByteArray) (n : Nat) (hn : n ≤ s.size) (hs : s.size ≤ 200) : addI (sumI (s.extract 0 n)).1 (sumI (s.extract 0 n)).2.1 (sumI (s.extract n s.size)).1 (sumI (s.extract n s.size)).2.1 ((s.size : Int) - n) = sumI s := by
  have e1 := str_cut s 0 n hn
  rw [List.drop_zero] at e1
  have e2 := str_cut s n s.size (Nat.le_refl _)
  rw [List.take_of_length_le (by rw [bytesOf_length]; exact Nat.le_refl _)] at e2
  have i1 : ∀ x ∈ (bytesOf s).take n, 0 ≤ x ∧ x ≤ 255 := fun x hx => bytes_in s x (List.mem_of_mem_take hx)
  have i2 : ∀ x ∈ (bytesOf s).drop n, 0 ≤ x ∧ x ≤ 255 := fun x hx => bytes_in s x (List.mem_of_mem_drop hx)
  have hl := bytesOf_length s
  have l1 : ((bytesOf s).take n).length = n := by rw [List.length_take]; omega
  have l2 : ((bytesOf s).drop n).length = s.size - n := by rw [List.length_drop]; omega
  have hw := lw_app ((bytesOf s).take n) ((bytesOf s).drop n) s.size
  have hm := lw_more ((bytesOf s).take n) n ((s.size : Int) - n)
  have hsum : (bytesOf s).sum = ((bytesOf s).take n).sum + ((bytesOf s).drop n).sum := by rw [← List.sum_append, List.take_append_drop]
  rw [List.take_append_drop, l1] at hw
  rw [show (n : Int) + ((s.size : Int) - n) = s.size by omega] at hm
  rw [e1, e2, sum_yes _ (by rw [strOfNums_size]; omega), sum_yes _ (by rw [strOfNums_size]; omega), sum_yes s hs, strOfNums_size, strOfNums_size, bytes_str _ i1, bytes_str _ i2, l1, l2, show ((s.size - n : Nat) : Int) = (s.size : Int) - n by omega]
  show addI (((bytesOf s).take n).sum % 255) (lw n ((bytesOf s).take n) % 255) (((bytesOf s).drop n).sum % 255) (lw ((s.size : Int) - n) ((bytesOf s).drop n) % 255) ((s.size : Int) - n) = _
  rw [hsum, hw, hm]
  generalize ((bytesOf s).take n).sum = A
  generalize ((bytesOf s).drop n).sum = B
  generalize lw n ((bytesOf s).take n) = C
  generalize lw ((s.size : Int) - n) ((bytesOf s).drop n) = D
  have hw0 : 0 ≤ (s.size : Int) - n ∧ (s.size : Int) - n ≤ 200 := by omega
  generalize (s.size : Int) - n = W at *
  unfold addI
  have hc : ((0 ≤ A % 255 ∧ A % 255 ≤ 254) ∧ (0 ≤ C % 255 ∧ C % 255 ≤ 254) ∧ (0 ≤ B % 255 ∧ B % 255 ≤ 254) ∧ (0 ≤ D % 255 ∧ D % 255 ≤ 254)) ∧ (0 ≤ W ∧ W ≤ 200) := by omega
  rw [if_pos hc]
  have ea : (A % 255 + B % 255) % 255 = (A + B) % 255 := by omega
  have eb : (C % 255 + D % 255 + W * (A % 255)) % 255 = (C + W * A + D) % 255 := by
    have e : W * A = W * (A % 255) + 255 * (W * (A / 255)) := by
      have h : A = A % 255 + 255 * (A / 255) := by omega
      have h2 : W * A = W * (A % 255 + 255 * (A / 255)) := by rw [← h]
      rw [h2, Int.mul_add, Int.mul_left_comm]
    rw [e]
    generalize W * (A % 255) = P
    generalize W * (A / 255) = Q
    omega
  rw [ea, eb]
-- the law's parts
theorem last_part (l1 : List Int) (hl : Drawn l1) (k : Nat) (hk : 1000 < k) : laws_FnSums.j6 k l1 = some true := by
  obtain ⟨k, rfl⟩ : ∃ m, k = m + 6 := ⟨k - 6, by omega⟩
  obtain ⟨a, p1, q1, e1, ha, hp1⟩ := draw_pick l1 hl 0 0 255 (by omega) (by omega) (by omega)
  obtain ⟨b, p2, q2, e2, hb, hp2⟩ := draw_pick l1 hl p1 q1 255 (by omega) (by omega) (by omega)
  obtain ⟨c, p3, q3, e3, hc, hp3⟩ := draw_pick l1 hl p2 q2 255 (by omega) (by omega) (by omega)
  obtain ⟨d, p4, q4, e4, hd, hp4⟩ := draw_pick l1 hl p3 q3 255 (by omega) (by omega) (by omega)
  obtain ⟨x, p5, q5, e5, hx, hp5⟩ := draw_pick l1 hl p4 q4 20 (by omega) (by omega) (by omega)
  obtain ⟨e, p6, q6, e6, _, hp6⟩ := draw_among l1 hl p5 q5 [(-1), 0, 1, 9, 200, 201] (by omega) (by omega) (by simp)
  have hD : ∃ d', spec_DrawAddSums.f l1 = some (a, b, c, d', e) := by
    refine ⟨wrap64 (d + wrap64 (wrap64 (Int.tdiv x 19) * 2)), ?_⟩
    unfold spec_DrawAddSums.f
    rw [e1]
    simp only [Option.bind_some]
    rw [e2]
    simp only [Option.bind_some]
    rw [e3]
    simp only [Option.bind_some]
    rw [e4]
    simp only [Option.bind_some]
    rw [e5]
    simp only [Option.bind_some]
    rw [e6]
    rfl
  obtain ⟨d', hD⟩ := hD
  obtain ⟨s, i, f, hs, hi0, hi1⟩ := draw_fill l1 hl
  have hW : spec_DrawWeightAt.f (k + 5) l1 = some (s, i) := by
    unfold spec_DrawWeightAt.f
    rw [f _ (by omega)]
    rfl
  rw [show k + 6 = (k + 5) + 1 from rfl, laws_FnSums.j6, hD]
  simp only [Option.bind_some]
  rw [(add_both k a b c d' e).1, (add_both k a b c d' e).2, hW]
  simp only [Option.bind_some]
  rw [(wgt_both s i (by omega)).1, (wgt_both s i (by omega)).2]
  simp
theorem w_next (n : Nat) (h : n ≤ 1000000) : wrap64 ((n : Int) + 1) = ((n + 1 : Nat) : Int) := by
  rw [w64 (by omega) (by omega)]
  omega
theorem w_bt (s : ByteArray) (i : Int) : wrap64 (bt s i) = bt s i := by
  have := bt_range s i
  exact w64 (by omega) (by omega)
theorem off_same (L x y : Int) (h : x % 255 = y % 255) : L % 255 = (L + y - x) % 255 := by omega
theorem off_not (L x y : Int) (h : L % 255 = (L + y - x) % 255) : x % 255 = y % 255 := by omega
theorem swap_part (l1 : List Int) (hl : Drawn l1) (k : Nat) (hk : 1010 < k) : laws_FnSums.j3 k l1 = some true := by
  obtain ⟨k, rfl⟩ : ∃ m, k = m + 4 := ⟨k - 4, by omega⟩
  obtain ⟨s, i, e, hs, hi0, hi1⟩ := draw_fill l1 hl
  obtain ⟨r, m1, m2, m3⟩ := swap_is s i (k + 2) (by omega) (by omega)
  have hd : spec_DrawSwapTwo.f (k + 3) l1 = some (s, i) := by
    unfold spec_DrawSwapTwo.f
    rw [e _ (by omega)]
    rfl
  rw [show k + 4 = (k + 3) + 1 from rfl, laws_FnSums.j3, hd]
  simp only [Option.bind_some]
  rw [m1, m2]
  simp only [Option.bind_some, bne_self_eq_false, Bool.false_eq_true, if_false]
  rw [show k + 3 = (k + 2) + 1 from rfl, laws_FnSums.j4, if_neg (by decide)]
  cases hr : r.2
  · rw [if_neg (by decide)]
    exact last_part l1 hl _ (by omega)
  · obtain ⟨hz, n, rfl, hn, hu⟩ := m3 hr
    have hb : n + 1 < (bytesOf s).length := by rw [bytesOf_length]; omega
    have b0 := bt_range s (n : Int)
    have b1 := bt_range s ((n + 1 : Nat) : Int)
    have hin : ∀ z ∈ ((bytesOf s).set n (bt s (n + 1 : Nat))).set (n + 1) (bt s n), 0 ≤ z ∧ z ≤ 255 := by
      have h1 := set_in _ (bytes_in s) n (bt s (n + 1 : Nat))
      rw [show bt s (n + 1 : Nat) % 256 = bt s (n + 1 : Nat) by omega] at h1
      have h2 := set_in _ h1 (n + 1) (bt s n)
      rwa [show bt s n % 256 = bt s n by omega] at h2
    have hus : r.1.size = s.size := by rw [hu, strOfNums_size, List.length_set, List.length_set, bytesOf_length]
    have hub : bytesOf r.1 = ((bytesOf s).set n (bt s (n + 1 : Nat))).set (n + 1) (bt s n) := by rw [hu, bytes_str _ hin]
    have self : ((bytesOf s).set n (bt s n)).set (n + 1) (bt s (n + 1 : Nat)) = bytesOf s := by
      have f0 := bt_bytes s n (by omega)
      have f1 := bt_bytes s (n + 1) (by omega)
      rw [List.getElem?_eq_getElem (by omega)] at f0 f1
      have e0 : (bytesOf s).set n (bt s n) = bytesOf s := by
        rw [← Option.some.inj f0]
        exact List.set_getElem_self _
      rw [e0, ← Option.some.inj f1]
      exact List.set_getElem_self _
    have hA : (bytesOf r.1).sum = (bytesOf s).sum := by
      rw [hub, sum_two _ _ _ _ hb]
      conv => rhs; rw [← self, sum_two _ _ _ _ hb]
      omega
    have hB : lw s.size (bytesOf r.1) = lw s.size (bytesOf s) + bt s (n + 1 : Nat) - bt s n := by
      rw [hub, lw_two _ _ _ _ _ hb]
      conv => rhs; rw [← self, lw_two _ _ _ _ _ hb]
      have q1 : ∀ z : Int, z * ((s.size : Int) - n) = z * ((s.size : Int) - n - 1) + z := fun z => by
        have : (s.size : Int) - n = ((s.size : Int) - n - 1) + 1 := by omega
        conv => lhs; rw [this]
        rw [Int.mul_add, Int.mul_one]
      rw [q1, q1]
      omega
    rw [if_pos rfl, sum_impl s _ (by omega), sum_impl r.1 _ (by omega), sum_yes s hz, sum_yes r.1 (by omega), hus, hA, hB]
    simp only [Option.bind_some, if_true]
    have w0 := w_next n (by clear hA hB hub self; omega)
    have w1 := w_bt s (n : Int)
    have w2 := w_bt s ((n + 1 : Nat) : Int)
    have c1 : (0 : Int) ≤ (n : Int) := Int.natCast_nonneg n
    have c2 : (n : Int) < (s.size : Int) := Int.ofNat_lt.2 (Nat.lt_of_succ_lt hn)
    have c3 : (0 : Int) ≤ ((n + 1 : Nat) : Int) := Int.natCast_nonneg (n + 1)
    have c4 : ((n + 1 : Nat) : Int) < (s.size : Int) := Int.ofNat_lt.2 hn
    have t1 : Int.tmod (bt s (n : Int)) 255 = bt s (n : Int) % 255 := tm b0.1
    have t2 : Int.tmod (bt s ((n + 1 : Nat) : Int)) 255 = bt s ((n + 1 : Nat) : Int) % 255 := tm b1.1
    rw [w0, w1, w2, t1, t2, if_pos c1, if_pos c2, if_pos c3, if_pos c4]
    generalize lw s.size (bytesOf s) = L
    have hq : ((L % 255 == (L + bt s ((n + 1 : Nat) : Int) - bt s (n : Int)) % 255) != (bt s (n : Int) % 255 == bt s ((n + 1 : Nat) : Int) % 255)) = false := by
      by_cases h : bt s (n : Int) % 255 = bt s ((n + 1 : Nat) : Int) % 255
      · rw [beq_iff_eq.2 h, beq_iff_eq.2 (off_same L _ _ h)]
        rfl
      · rw [beq_eq_false_iff_ne.2 h, beq_eq_false_iff_ne.2 (fun g => h (off_not L _ _ g))]
        rfl
    rw [hq, show k + 2 = (k + 1) + 1 from rfl, laws_FnSums.j5, if_neg (by decide)]
    exact last_part l1 hl _ (Nat.lt_of_lt_of_le (Nat.lt_succ_self 1000) (by clear hA hB hub self hq w0 w1 w2 t1 t2; omega))
theorem weigh_l (l1 : List Int) (s : ByteArray) (hs : s.size ≤ 200) (b : Int) (hb : b = sW s s.size s.size % 255) : ∀ (d i k : Nat), i + d = s.size → d < k →
    laws_FnSums.l0 k l1 s b (sW s s.size i % 255) s.size i = laws_FnSums.j3 (k - 1 - d) l1
  | 0, i, k, hi, hk => by
    obtain ⟨k, rfl⟩ : ∃ m, k = m + 1 := ⟨k - 1, by omega⟩
    obtain rfl : i = s.size := by omega
    rw [laws_FnSums.l0, if_neg (by omega), if_pos hb.symm]
    rfl
  | d + 1, i, k, hi, hk => by
    obtain ⟨k, rfl⟩ : ∃ m, k = m + 1 := ⟨k - 1, by omega⟩
    have b0 := bt_range s (i : Int)
    have hw : wgtI s i = ((s.size : Int) - i, true) := by
      unfold wgtI
      rw [if_pos (by omega)]
    have h3 : 0 ≤ ((s.size : Int) - i) * bt s i := Int.mul_nonneg (by omega) b0.1
    have h4 : ((s.size : Int) - i) * bt s i ≤ 200 * 255 := Int.mul_le_mul (by omega) b0.2 b0.1 (by omega)
    rw [laws_FnSums.l0, if_pos (by omega), (wgt_both s i (by omega)).2, hw]
    simp only [Option.bind_some, if_true]
    rw [if_pos (by omega), if_pos (by omega), w64 (x := bt s (i : Int)) (by omega) (by omega), w64 (x := ((s.size : Int) - i) * bt s i) (by omega) (by omega), w64 (x := sW s s.size i % 255 + ((s.size : Int) - i) * bt s i) (by omega) (by omega), tm (by omega), w64 (x := (i : Int) + 1) (by omega) (by omega), show ((i : Int) + 1) = ((i + 1 : Nat) : Int) by omega]
    have e : (sW s s.size i % 255 + ((s.size : Int) - i) * bt s i) % 255 = sW s s.size (i + 1) % 255 := by
      rw [sW, Int.mul_comm (bt s (i : Int))]
      generalize ((s.size : Int) - i) * bt s i = P
      omega
    rw [e, weigh_l l1 s hs b hb d (i + 1) k (by omega) (by omega), show k + 1 - 1 - (d + 1) = k - 1 - d by omega]
theorem FnSums : laws_FnSums.PureS := by
  intro l m ⟨hl, hl2⟩ ⟨hm, hm2⟩
  have u8 (x : Int) (h : (Lit.int .u8 x).wf = true) : 0 ≤ x ∧ x ≤ 255 := by
    simp [Lit.wf, IntKind.min, IntKind.max, IntKind.signed, IntKind.bits] at h
    omega
  have dl : Drawn l := ⟨fun x hx => u8 x (hl2 x hx), by omega⟩
  have dm : Drawn m := ⟨fun x hx => u8 x (hm2 x hx), by omega⟩
  obtain ⟨K, hK⟩ : ∃ K, K = m.length + 3000 := ⟨_, rfl⟩
  refine ⟨K + 3, ?_⟩
  unfold laws_FnSums.f
  by_cases h0 : wrap64 ((l.length : Int) + (m.length : Int)) > 1048576
  · rw [if_pos h0]
  rw [if_neg h0]
  obtain ⟨s, p1, q1, e1, hs, _⟩ := draw_text l dl 0 0 (by omega) (by omega)
  have hd : spec_DrawSumOf.f (K + 3) l = some s := by
    unfold spec_DrawSumOf.f
    rw [e1 _ (by omega)]
    rfl
  rw [hd]
  simp only [Option.bind_some]
  rw [sum_spec s _ (by omega) (by omega), sum_impl s _ (by omega)]
  simp only [Option.bind_some, bne_self_eq_false, Bool.false_eq_true, if_false]
  rw [if_pos trivial, show K + 3 = (K + 2) + 1 from rfl, laws_FnSums.j0, if_neg (by decide)]
  by_cases h : s.size ≤ 200
  · obtain ⟨x, hx, hx0, hx1⟩ := number_of m dm
    have hy := sum_yes s h
    have hsz : wrap64 ((s.size : Int) + 1) = (s.size : Int) + 1 := w64 (by omega) (by omega)
    have hmod : Int.tmod x ((s.size : Int) + 1) = x % ((s.size : Int) + 1) := tm hx0
    have hr0 : 0 ≤ x % ((s.size : Int) + 1) := Int.emod_nonneg _ (by omega)
    have hr1 : x % ((s.size : Int) + 1) < (s.size : Int) + 1 := Int.emod_lt_of_pos _ (by omega)
    have hh := halves s (x % ((s.size : Int) + 1)).toNat (by omega) h
    have hc : ((x % ((s.size : Int) + 1)).toNat : Int) = x % ((s.size : Int) + 1) := Int.toNat_of_nonneg hr0
    rw [hc] at hh
    have hw : wrap64 ((s.size : Int) - x % ((s.size : Int) + 1)) = (s.size : Int) - x % ((s.size : Int) + 1) := w64 (by omega) (by omega)
    have z1 : (s.extract 0 (x % ((s.size : Int) + 1)).toNat).size ≤ 200 := by rw [str_cut s 0 _ (by omega), strOfNums_size]; simp; omega
    have z2 : (s.extract (x % ((s.size : Int) + 1)).toNat s.size).size ≤ 200 := by rw [str_cut s _ s.size (Nat.le_refl _), strOfNums_size]; simp; omega
    have y1 : (sumI (s.extract 0 (x % ((s.size : Int) + 1)).toNat)).2.2 = true := by rw [sum_yes _ z1]
    have y2 : (sumI (s.extract (x % ((s.size : Int) + 1)).toNat s.size)).2.2 = true := by rw [sum_yes _ z2]
    have y3 : (sumI s).2.2 = true := by rw [hy]
    rw [y3, if_pos rfl, hx _ (by omega), Option.bind_some]
    rw [hsz, hmod, if_neg (by omega), if_pos hr0, if_pos (by omega), sum_impl _ _ (by omega), sum_impl _ _ (by omega)]
    simp only [Option.bind_some]
    rw [hw, (add_both 0 _ _ _ _ _).2, hh]
    simp only [Option.bind_some]
    rw [y1, y2, y3, if_pos rfl, if_pos rfl, if_pos rfl, if_pos trivial, bne_self_eq_false, show K + 2 = (K + 1) + 1 from rfl, laws_FnSums.j1, if_neg (by decide)]
    have e : sB s s.size = sW s s.size s.size := by
      have e := sB_sW s s.size s.size
      have e2 : ((s.size : Int) - s.size) * sA s s.size = 0 := by rw [Int.sub_self, Int.zero_mul]
      omega
    have := weigh_l m s h (sumI s).2.1 (by rw [hy, ← e, sB_sum]) s.size 0 (K + 1) (by omega) (by omega)
    refine Eq.trans this ?_
    exact swap_part m dm _ (by omega)
  · have hy : (sumI s).2.2 = false := by
      unfold sumI
      rw [if_neg h]
    rw [hy, if_neg (by decide)]
    exact swap_part m dm _ (by omega)

end Go.Proofs.Ytmagnbbpbhmacaa.Pure
