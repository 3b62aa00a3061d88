/- FnExactFillSum answers true for each text and each place. No condition beyond the row's own bounds. -/
import Derived.Test.YtmagnbbpbhmacaaSFnExactFillSum
namespace Go.Proofs.Ytmagnbbpbhmacaa.Pure
open Go.RowKit Go.Proofs.Ytmagnbbpbhmacaa.PFnExactFillSum Go.Proofs.YtmagnbbpbhmacaaW.PrintWords Go.Proofs.YtmagnbbpbhmacaaW.PrintLast
set_option linter.unusedVariables false
set_option linter.unusedSimpArgs false

-- w64
theorem w64 {x : Int} (h0 : -9223372036854775808 ≤ x) (h1 : x ≤ 9223372036854775807) : wrap64 x = x := by
  unfold wrap64
  omega
theorem tm {x y : Int} (h0 : 0 ≤ x) : Int.tmod x y = x % y := Int.tmod_eq_emod_of_nonneg h0
theorem wf64 {x : Int} (h : (Lit.int .i64 x).wf = true) : -9223372036854775808 ≤ x ∧ x ≤ 9223372036854775807 := by
  simp [Lit.wf, IntKind.min, IntKind.max, IntKind.signed, IntKind.bits] at h
  omega

-- withs
theorem bytes_str (l : List Int) (h : ∀ x ∈ l, 0 ≤ x ∧ x ≤ 255) : bytesOf (strOfNums l) = l := by
  unfold bytesOf
  rw [strOfNums_data, List.map_map]
  conv => rhs; rw [← List.map_id l]
  apply List.map_congr_left
  intro x hx
  have := h x hx
  simp [Function.comp]
  omega
theorem str_bytes (s : ByteArray) : strOfNums (bytesOf s) = s := by
  have h : (strOfNums (bytesOf s)).data.toList = s.data.toList := by
    rw [strOfNums_data]
    unfold bytesOf
    rw [List.map_map]
    conv => rhs; rw [← List.map_id s.data.toList]
    apply List.map_congr_left
    intro x _
    simp [Function.comp]
  obtain ⟨⟨a⟩⟩ := s
  exact congrArg (fun l : List UInt8 => (⟨⟨l⟩⟩ : ByteArray)) h
theorem bytes_in (s : ByteArray) : ∀ x ∈ bytesOf s, 0 ≤ x ∧ x ≤ 255 := by
  intro x hx
  unfold bytesOf at hx
  obtain ⟨b, _, rfl⟩ := List.mem_map.1 hx
  have := b.toNat_lt
  omega
theorem str_app (a b : List Int) : strOfNums a ++ strOfNums b = strOfNums (a ++ b) := by
  have h : (strOfNums a ++ strOfNums b).data.toList = (strOfNums (a ++ b)).data.toList := by
    rw [strOfNums_data, ByteArray.data_append, Array.toList_append, strOfNums_data, strOfNums_data, List.map_append]
  generalize strOfNums a ++ strOfNums b = x at h
  generalize strOfNums (a ++ b) = y at h
  obtain ⟨⟨x⟩⟩ := x
  obtain ⟨⟨y⟩⟩ := y
  exact congrArg (fun l : List UInt8 => (⟨⟨l⟩⟩ : ByteArray)) h
theorem str_cut (s : ByteArray) (i j : Nat) (hj : j ≤ s.size) : s.extract i j = strOfNums (((bytesOf s).take j).drop i) := by
  have h : (s.extract i j).data.toList = (strOfNums (((bytesOf s).take j).drop i)).data.toList := by
    rw [strOfNums_data, ByteArray.data_extract, Array.toList_extract]
    unfold bytesOf
    rw [List.map_drop, List.map_take, List.map_map]
    rw [show (fun n : Int => UInt8.ofNat n.toNat) ∘ (fun b : UInt8 => (b.toNat : Int)) = id by funext b; simp [Function.comp]]
    rw [List.map_id]
    simp [List.extract, List.drop_take]
  generalize s.extract i j = x at h
  generalize strOfNums (((bytesOf s).take j).drop i) = y at h
  obtain ⟨⟨x⟩⟩ := x
  obtain ⟨⟨y⟩⟩ := y
  exact congrArg (fun l : List UInt8 => (⟨⟨l⟩⟩ : ByteArray)) h
theorem with_eq (s : ByteArray) (i : Nat) (v : Int) (hs : s.size ≤ 200) (hi : i < s.size) : spec_l1With.f s i v = some (strOfNums ((bytesOf s).set i (v % 256))) := by
  unfold spec_l1With.f
  rw [if_pos (by omega), if_pos (by omega), if_pos (by omega), Int.toNat_natCast]
theorem withs_eq (s : ByteArray) (i : Nat) (l : List Int) (hs : s.size ≤ 200) (hi : i + l.length ≤ s.size) : impl_withBytes.f s i l = some (strOfNums ((bytesOf s).take i ++ l ++ (bytesOf s).drop (i + l.length))) := by
  have e1 : s.extract 0 ((i : Int)).toNat = strOfNums ((bytesOf s).take i) := by rw [Int.toNat_natCast, str_cut s 0 i (by omega)]; rfl
  have e2 : s.extract (((i + l.length : Nat) : Int)).toNat s.size = strOfNums ((bytesOf s).drop (i + l.length)) := by
    rw [Int.toNat_natCast, str_cut s _ _ (Nat.le_refl _), List.take_of_length_le (by rw [bytesOf_length]; exact Nat.le_refl _)]
  unfold impl_withBytes.f
  rw [w64 (x := (i : Int) + (l.length : Int)) (by omega) (by omega), show (i : Int) + (l.length : Int) = ((i + l.length : Nat) : Int) by omega, e1, e2, str_app, str_app]
  have h1 : (0 : Int) ≤ (i : Int) := by omega
  have h2 : (i : Int) ≤ (s.size : Int) := by omega
  have h3 : (strOfNums ((bytesOf s).take i)).size + (strOfNums l).size ≤ 9223372036854775807 := by rw [strOfNums_size, strOfNums_size, List.length_take]; omega
  have h4 : (0 : Int) ≤ ((i + l.length : Nat) : Int) := by omega
  have h5 : ((i + l.length : Nat) : Int) ≤ (s.size : Int) := by omega
  have h6 : (strOfNums ((bytesOf s).take i ++ l)).size + (strOfNums ((bytesOf s).drop (i + l.length))).size ≤ 9223372036854775807 := by rw [strOfNums_size, strOfNums_size, List.length_append, List.length_take, List.length_drop, bytesOf_length]; omega
  rw [if_pos h1, if_pos h2, if_pos h3, if_pos h4, if_pos h5, if_pos h6]
theorem set_one (l : List Int) (i : Nat) (x : Int) (hi : i < l.length) : l.set i x = l.take i ++ [x] ++ l.drop (i + 1) := by
  rw [List.set_eq_take_append_cons_drop, if_pos hi]
  simp
theorem set_two (l : List Int) (i : Nat) (x y : Int) (hi : i + 1 < l.length) : (l.set i x).set (i + 1) y = l.take i ++ [x, y] ++ l.drop (i + 2) := by
  apply List.ext_getElem?
  intro j
  rw [List.getElem?_set, List.getElem?_set, List.length_set]
  by_cases h1 : j < i
  · rw [if_neg (by omega), if_neg (by omega), List.append_assoc, List.getElem?_append_left (by rw [List.length_take]; omega), List.getElem?_take, if_pos h1]
  · by_cases h2 : j = i
    · subst h2
      rw [if_neg (by omega), if_pos rfl, if_pos (by omega), List.append_assoc, List.getElem?_append_right (by rw [List.length_take]; omega)]
      simp [List.length_take, show min j l.length = j by omega]
    · by_cases h3 : j = i + 1
      · subst h3
        rw [if_pos rfl, if_pos (by omega), List.append_assoc, List.getElem?_append_right (by rw [List.length_take]; omega)]
        simp [List.length_take, show min i l.length = i by omega]
      · rw [if_neg (by omega), if_neg (by omega), List.getElem?_append_right (by rw [List.length_append, List.length_take]; simp; omega), List.getElem?_drop]
        congr 1
        rw [List.length_append, List.length_take]
        simp
        omega
theorem set_in (l : List Int) (h : ∀ x ∈ l, 0 ≤ x ∧ x ≤ 255) (i : Nat) (x : Int) : ∀ y ∈ l.set i (x % 256), 0 ≤ y ∧ y ≤ 255 := by
  intro y hy
  rcases List.mem_or_eq_of_mem_set hy with hy | rfl
  · exact h y hy
  · omega
theorem long_eq (s : ByteArray) : spec_l1Long.f s = some (decide (s.size ≤ 200)) := by
  unfold spec_l1Long.f
  congr 1
  rw [decide_eq_decide]
  omega
theorem within_eq (s : ByteArray) (i n : Int) (hi : -9223372036854775808 ≤ i ∧ i ≤ 9223372036854775807) (hn : 0 ≤ n ∧ n ≤ 2) : impl_within.f s i n = some (decide (s.size ≤ 200 ∧ 0 ≤ i ∧ i < (s.size : Int) ∧ i + n ≤ s.size)) := by
  unfold impl_within.f
  by_cases h1 : (s.size : Int) ≤ 200
  · rw [if_pos h1]
    by_cases h2 : i ≥ 0
    · rw [if_pos h2]
      by_cases h3 : i < (s.size : Int)
      · rw [if_pos h3, w64 (by omega) (by omega)]
        congr 1
        rw [decide_eq_decide]
        omega
      · rw [if_neg h3, decide_eq_false (by omega)]
    · rw [if_neg h2, decide_eq_false (by omega)]
  · rw [if_neg h1, decide_eq_false (by omega)]

-- sums
/-- The sum of the first i bytes, the weighted sum with weight n - j, and the sum of the sums. -/
def sA (s : ByteArray) : Nat → Int
  | 0 => 0
  | i + 1 => sA s i + bt s i
def sW (s : ByteArray) (n : Int) : Nat → Int
  | 0 => 0
  | i + 1 => sW s n i + bt s i * (n - i)
def sB (s : ByteArray) : Nat → Int
  | 0 => 0
  | i + 1 => sB s i + sA s (i + 1)
theorem sA_bd (s : ByteArray) : ∀ i : Nat, 0 ≤ sA s i ∧ sA s i ≤ 255 * i
  | 0 => by simp [sA]
  | i + 1 => by
    have := sA_bd s i
    have := bt_range s i
    simp only [sA]
    omega
theorem sW_bd (s : ByteArray) (n : Int) (hn : n ≤ 200) : ∀ i : Nat, (i : Int) ≤ n → 0 ≤ sW s n i ∧ sW s n i ≤ 51000 * i
  | 0, _ => by simp [sW]
  | i + 1, h => by
    have h1 := sW_bd s n hn i (by omega)
    have h2 := bt_range s i
    have h3 : 0 ≤ bt s i * (n - i) := Int.mul_nonneg h2.1 (by omega)
    have h4 : bt s i * (n - i) ≤ 255 * 200 := Int.mul_le_mul h2.2 (by omega) (by omega) (by omega)
    simp only [sW]
    omega
theorem sB_sW (s : ByteArray) (n : Int) : ∀ i : Nat, sB s i + (n - i) * sA s i = sW s n i
  | 0 => by simp [sA, sB, sW]
  | i + 1 => by
    have h := sB_sW s n i
    simp only [sB, sW, sA]
    have e : (n - ((i + 1 : Nat) : Int)) * (sA s i + bt s i) = (n - i) * sA s i + bt s i * (n - i) - (sA s i + bt s i) := by
      have : (n - ((i + 1 : Nat) : Int)) = (n - i) - 1 := by omega
      rw [this, Int.sub_mul, Int.mul_add, Int.one_mul, Int.mul_comm (bt s i)]
    rw [e]
    omega
theorem spec_sums_l (s : ByteArray) (d : Nat) : ∀ (k i : Nat), i + d = s.size → d < k → s.size ≤ 140737488351232 →
    spec_l1Sums.l0 k s (sA s i % 255) (sB s i % 255) i = some (sA s s.size % 255, sB s s.size % 255) := by
  induction d with
  | zero =>
    intro k i h hk hs
    obtain ⟨k, rfl⟩ : ∃ m, k = m + 1 := ⟨k - 1, by omega⟩
    simp only [spec_l1Sums.l0]
    rw [if_neg (by omega)]
    obtain rfl : i = s.size := by omega
    rfl
  | succ d ih =>
    intro k i h hk hs
    obtain ⟨k, rfl⟩ : ∃ m, k = m + 1 := ⟨k - 1, by omega⟩
    have hb := bt_range s i
    have h1 := ih k (i + 1) (by omega) (by omega) hs
    simp only [spec_l1Sums.l0]
    rw [if_pos (by omega), if_pos (by omega)]
    rw [w64 (x := bt s i) (by omega) (by omega), w64 (x := sA s i % 255 + bt s i) (by omega) (by omega), tm (by omega),
      w64 (x := sB s i % 255 + (sA s i % 255 + bt s i) % 255) (by omega) (by omega), tm (by omega), w64 (x := (i : Int) + 1) (by omega) (by omega)]
    have e1 : (sA s i % 255 + bt s i) % 255 = sA s (i + 1) % 255 := by simp only [sA]; omega
    have e2 : (sB s i % 255 + sA s (i + 1) % 255) % 255 = sB s (i + 1) % 255 := by simp only [sB]; omega
    rw [e1, e2]
    exact h1
theorem spec_sums (s : ByteArray) (k : Nat) (hk : s.size < k) (hs : s.size ≤ 140737488351232) :
    spec_l1Sums.f k s = some (sA s s.size % 255, sB s s.size % 255) := by
  have h := spec_sums_l s s.size k 0 (by omega) hk hs
  unfold spec_l1Sums.f
  simpa [sA, sB] using h
theorem impl_sums_l (s : ByteArray) (d : Nat) : ∀ (k i : Nat), i + d = s.size → d < k → s.size ≤ 200 →
    impl_sums.l0 k s (sA s i) (sW s s.size i) s.size i = some (sA s s.size % 255, sW s s.size s.size % 255) := by
  induction d with
  | zero =>
    intro k i h hk hs
    obtain ⟨k, rfl⟩ : ∃ m, k = m + 1 := ⟨k - 1, by omega⟩
    simp only [impl_sums.l0]
    rw [if_neg (by omega)]
    obtain rfl : i = s.size := by omega
    have := sA_bd s s.size
    have := sW_bd s s.size (by omega) s.size (by omega)
    rw [tm (by omega), tm (by omega)]
  | succ d ih =>
    intro k i h hk hs
    obtain ⟨k, rfl⟩ : ∃ m, k = m + 1 := ⟨k - 1, by omega⟩
    have hb := bt_range s i
    have h1 := ih k (i + 1) (by omega) (by omega) hs
    have ha := sA_bd s i
    have hw := sW_bd s s.size (by omega) i (by omega)
    have h3 : 0 ≤ bt s i * ((s.size : Int) - i) := Int.mul_nonneg hb.1 (by omega)
    have h4 : bt s i * ((s.size : Int) - i) ≤ 255 * 200 := Int.mul_le_mul hb.2 (by omega) (by omega) (by omega)
    simp only [impl_sums.l0]
    rw [if_pos (by omega), if_pos (by omega), if_pos (by omega)]
    rw [w64 (x := bt s i) (by omega) (by omega), w64 (x := sA s i + bt s i) (by omega) (by omega), w64 (x := (s.size : Int) - i) (by omega) (by omega),
      w64 (x := bt s i * ((s.size : Int) - i)) (by omega) (by omega), w64 (x := sW s s.size i + bt s i * ((s.size : Int) - i)) (by omega) (by omega), w64 (x := (i : Int) + 1) (by omega) (by omega)]
    exact h1
theorem impl_sums_f (s : ByteArray) (k : Nat) (hk : s.size < k) (hs : s.size ≤ 200) :
    impl_sums.f k s = some (sA s s.size % 255, sB s s.size % 255) := by
  have h := impl_sums_l s s.size k 0 (by omega) hk hs
  have e := sB_sW s s.size s.size
  have e2 : ((s.size : Int) - s.size) * sA s s.size = 0 := by rw [Int.sub_self, Int.zero_mul]
  unfold impl_sums.f
  rw [show sB s s.size = sW s s.size s.size by omega]
  simpa [sA, sW] using h

theorem tm3 (z : Int) : Int.tmod (Int.tmod z 255 + 255) 255 = z % 255 := by
  by_cases h : 0 ≤ z
  · rw [tm h, tm (by omega)]
    omega
  · have e : Int.tmod z 255 = -((-z) % 255) := by
      have := Int.neg_tmod (-z) 255
      rw [Int.neg_neg, tm (x := -z) (by omega)] at this
      exact this
    rw [e, tm (by omega)]
    omega
theorem tmb (z : Int) : -255 < Int.tmod z 255 ∧ Int.tmod z 255 < 255 := by
  by_cases h : 0 ≤ z
  · rw [tm h]
    omega
  · have e : Int.tmod z 255 = -((-z) % 255) := by
      have := Int.neg_tmod (-z) 255
      rw [Int.neg_neg, tm (x := -z) (by omega)] at this
      exact this
    rw [e]
    omega
theorem fill_both (s : ByteArray) (i : Int) (k : Nat) (hs : s.size ≤ 140737488351232) (hk : s.size < k) (hi : -9223372036854775808 ≤ i ∧ i ≤ 9223372036854775807) :
    ∃ r : ByteArray × Bool, spec_FillSum.f (k + 1) s i = some r ∧ impl_FillSum.f (k + 1) s i = some r := by
  unfold spec_FillSum.f impl_FillSum.f
  rw [long_eq, within_eq s i 2 hi (by omega)]
  simp only [Option.bind_some, spec_FillSum.j0, if_true]
  by_cases h : s.size ≤ 200
  · rw [if_pos (decide_eq_true h), w64 (x := (s.size : Int) - 1) (by omega) (by omega)]
    by_cases h0 : i < 0
    · rw [if_pos h0, if_neg (by rw [decide_eq_true_eq]; omega)]
      exact ⟨_, rfl, rfl⟩
    · rw [if_neg h0]
      by_cases h1 : i ≥ (s.size : Int) - 1
      · rw [if_pos (decide_eq_true h1), if_neg (by rw [decide_eq_true_eq]; omega)]
        exact ⟨_, rfl, rfl⟩
      · obtain ⟨n, rfl⟩ : ∃ n : Nat, i = (n : Int) := ⟨i.toNat, by omega⟩
        have hj : s.size ≤ 200 ∧ 0 ≤ (n : Int) ∧ (n : Int) < (s.size : Int) ∧ (n : Int) + 2 ≤ s.size := by omega
        rw [decide_eq_false h1, if_neg Bool.false_ne_true, if_pos (decide_eq_true hj), w64 (x := (n : Int) + 1) (by omega) (by omega)]
        have hb : n + 1 < (bytesOf s).length := by rw [bytesOf_length]; omega
        have hl (x : Int) : (strOfNums ((bytesOf s).set n x)).size = s.size := by rw [strOfNums_size, List.length_set, bytesOf_length]
        have hw (x : Int) := set_in _ (bytes_in s) n x
        have hl2 (x y : Int) : (strOfNums (((bytesOf s).set n x).set (n + 1) y)).size = s.size := by rw [strOfNums_size, List.length_set, List.length_set, bytesOf_length]
        have hw2 (x y : Int) := set_in _ (hw x) (n + 1) y
        have two (x y : Int) : ((spec_l1With.f s n x).bind fun t => spec_l1With.f t ((n : Int) + 1) y) = some (strOfNums (((bytesOf s).set n (x % 256)).set (n + 1) (y % 256))) := by
          rw [with_eq s n _ h (by omega)]
          simp only [Option.bind_some]
          rw [show (n : Int) + 1 = ((n + 1 : Nat) : Int) by omega, with_eq _ (n + 1) _ (by rw [hl]; omega) (by rw [hl]; omega), bytes_str _ (hw _)]
        have e0 := two 0 0
        rw [with_eq s n 0 h (by omega)] at e0
        simp only [Option.bind_some, show (0 : Int) % 256 = 0 from rfl] at e0
        rw [with_eq s n 0 h (by omega), withs_eq s n [0, 0] h (by simp; omega)]
        simp only [Option.bind_some, show (0 : Int) % 256 = 0 from rfl]
        rw [e0, show [(0 : Int), 0].length = 2 from rfl, ← set_two _ _ _ _ hb]
        simp only [Option.bind_some]
        have hz := hl2 0 0
        have hy := hw2 0 0
        rw [show (0 : Int) % 256 = 0 from rfl] at hy
        have hbs : bytesOf (strOfNums (((bytesOf s).set n 0).set (n + 1) 0)) = ((bytesOf s).set n 0).set (n + 1) 0 := bytes_str _ hy
        generalize strOfNums (((bytesOf s).set n 0).set (n + 1) 0) = t at hz hbs
        rw [spec_sums t _ (by omega) (by omega), impl_sums_f t _ (by omega) (by omega)]
        simp only [Option.bind_some]
        have ha : 0 ≤ sA t t.size % 255 ∧ sA t t.size % 255 < 255 := by omega
        have hb2 : 0 ≤ sB t t.size % 255 ∧ sB t t.size % 255 < 255 := by omega
        generalize sA t t.size % 255 = a at ha
        generalize sB t t.size % 255 = b at hb2
        rw [w64 (x := (s.size : Int) - n) (by omega) (by omega), w64 (x := (s.size : Int) - n - 1) (by omega) (by omega)]
        have hm : 0 ≤ ((s.size : Int) - n - 1) * a ∧ ((s.size : Int) - n - 1) * a ≤ 200 * 255 := ⟨Int.mul_nonneg (by omega) ha.1, Int.mul_le_mul (by omega) (by omega) ha.1 (by omega)⟩
        generalize ((s.size : Int) - n - 1) * a = m at hm
        rw [w64 (x := m) (by omega) (by omega), w64 (x := -b) (by omega) (by omega), w64 (x := -b + m) (by omega) (by omega), w64 (x := m + 255) (by omega) (by omega), w64 (x := m + 255 - b) (by omega) (by omega),
          w64 (x := -a) (by omega) (by omega), w64 (x := 510 - a) (by omega) (by omega)]
        have q1 := tmb (-b + m)
        rw [w64 (x := Int.tmod (-b + m) 255 + 255) (by omega) (by omega), tm3, tm (x := m + 255 - b) (by omega), show (m + 255 - b) % 255 = (-b + m) % 255 by omega]
        have hx : 0 ≤ (-b + m) % 255 ∧ (-b + m) % 255 < 255 := by omega
        generalize (-b + m) % 255 = x at hx
        rw [w64 (x := -a - x) (by omega) (by omega), w64 (x := 510 - a - x) (by omega) (by omega)]
        have q2 := tmb (-a - x)
        rw [w64 (x := Int.tmod (-a - x) 255 + 255) (by omega) (by omega), tm3, tm (x := 510 - a - x) (by omega), show (510 - a - x) % 255 = (-a - x) % 255 by omega]
        have hyy : 0 ≤ (-a - x) % 255 ∧ (-a - x) % 255 < 255 := by omega
        generalize (-a - x) % 255 = y at hyy
        rw [with_eq t n x (by omega) (by omega), withs_eq s n [x % 256, y % 256] h (by simp; omega), show [x % 256, y % 256].length = 2 from rfl, ← set_two _ _ _ _ hb, hbs]
        simp only [Option.bind_some]
        have e5 : (((bytesOf s).set n 0).set (n + 1) 0).set n (x % 256) = ((bytesOf s).set n (x % 256)).set (n + 1) 0 := by
          rw [List.set_comm _ _ (by omega), List.set_set]
        rw [e5]
        have hl6 : (strOfNums (((bytesOf s).set n (x % 256)).set (n + 1) 0)).size = s.size := hl2 _ _
        have hw6 := hw2 x 0
        rw [show (0 : Int) % 256 = 0 from rfl] at hw6
        rw [show (n : Int) + 1 = ((n + 1 : Nat) : Int) by omega, with_eq _ (n + 1) y (by omega) (by omega), bytes_str _ hw6, List.set_set]
        exact ⟨_, rfl, rfl⟩
  · rw [decide_eq_false h, if_neg Bool.false_ne_true, if_neg (by rw [decide_eq_true_eq]; omega)]
    exact ⟨_, rfl, rfl⟩
theorem FnExactFillSum : laws_FnExactFillSum.PureS := by
  intro s i hs hi
  refine ⟨s.size + 2, ?_⟩
  obtain ⟨r, e1, e2⟩ := fill_both s i (s.size + 1) hs (by omega) (wf64 hi)
  unfold laws_FnExactFillSum.f
  by_cases h0 : (s.size : Int) > 1048576
  · rw [if_pos h0]
  · rw [if_neg h0, e1, e2]
    simp

end Go.Proofs.Ytmagnbbpbhmacaa.Pure
