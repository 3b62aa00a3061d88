/- FnFilled answers true for all drawn texts. No condition beyond the row's own bounds. -/
import Derived.Test.YtmagnbbpbhmacaaSFnFilled
namespace Go.Proofs.Ytmagnbbpbhmacaa.Pure
open Go.RowKit Go.Proofs.Ytmagnbbpbhmacaa.PFnFilled Go.Proofs.YtmagnbbpbhmacaaW.PrintWords Go.Proofs.YtmagnbbpbhmacaaW.PrintLast
set_option linter.unusedVariables false
set_option linter.unusedSimpArgs false

-- w64
theorem w64 {x : Int} (h0 : -9223372036854775808 ≤ x) (h1 : x ≤ 9223372036854775807) : wrap64 x = x := by
  unfold wrap64
  omega
theorem tm {x y : Int} (h0 : 0 ≤ x) : Int.tmod x y = x % y := Int.tmod_eq_emod_of_nonneg h0
theorem wf64 {x : Int} (h : (Lit.int .i64 x).wf = true) : -9223372036854775808 ≤ x ∧ x ≤ 9223372036854775807 := by
  simp [Lit.wf, IntKind.min, IntKind.max, IntKind.signed, IntKind.bits] at h
  omega

-- withs0
theorem bytes_str (l : List Int) (h : ∀ x ∈ l, 0 ≤ x ∧ x ≤ 255) : bytesOf (strOfNums l) = l := by
  unfold bytesOf
  rw [strOfNums_data, List.map_map]
  conv => rhs; rw [← List.map_id l]
  apply List.map_congr_left
  intro x hx
  have := h x hx
  simp [Function.comp]
  omega
theorem str_bytes (s : ByteArray) : strOfNums (bytesOf s) = s := by
  have h : (strOfNums (bytesOf s)).data.toList = s.data.toList := by
    rw [strOfNums_data]
    unfold bytesOf
    rw [List.map_map]
    conv => rhs; rw [← List.map_id s.data.toList]
    apply List.map_congr_left
    intro x _
    simp [Function.comp]
  obtain ⟨⟨a⟩⟩ := s
  exact congrArg (fun l : List UInt8 => (⟨⟨l⟩⟩ : ByteArray)) h
theorem bytes_in (s : ByteArray) : ∀ x ∈ bytesOf s, 0 ≤ x ∧ x ≤ 255 := by
  intro x hx
  unfold bytesOf at hx
  obtain ⟨b, _, rfl⟩ := List.mem_map.1 hx
  have := b.toNat_lt
  omega
theorem str_app (a b : List Int) : strOfNums a ++ strOfNums b = strOfNums (a ++ b) := by
  have h : (strOfNums a ++ strOfNums b).data.toList = (strOfNums (a ++ b)).data.toList := by
    rw [strOfNums_data, ByteArray.data_append, Array.toList_append, strOfNums_data, strOfNums_data, List.map_append]
  generalize strOfNums a ++ strOfNums b = x at h
  generalize strOfNums (a ++ b) = y at h
  obtain ⟨⟨x⟩⟩ := x
  obtain ⟨⟨y⟩⟩ := y
  exact congrArg (fun l : List UInt8 => (⟨⟨l⟩⟩ : ByteArray)) h
theorem str_cut (s : ByteArray) (i j : Nat) (hj : j ≤ s.size) : s.extract i j = strOfNums (((bytesOf s).take j).drop i) := by
  have h : (s.extract i j).data.toList = (strOfNums (((bytesOf s).take j).drop i)).data.toList := by
    rw [strOfNums_data, ByteArray.data_extract, Array.toList_extract]
    unfold bytesOf
    rw [List.map_drop, List.map_take, List.map_map]
    rw [show (fun n : Int => UInt8.ofNat n.toNat) ∘ (fun b : UInt8 => (b.toNat : Int)) = id by funext b; simp [Function.comp]]
    rw [List.map_id]
    simp [List.extract, List.drop_take]
  generalize s.extract i j = x at h
  generalize strOfNums (((bytesOf s).take j).drop i) = y at h
  obtain ⟨⟨x⟩⟩ := x
  obtain ⟨⟨y⟩⟩ := y
  exact congrArg (fun l : List UInt8 => (⟨⟨l⟩⟩ : ByteArray)) h

-- withs
theorem with_eq (s : ByteArray) (i : Nat) (v : Int) (hs : s.size ≤ 200) (hi : i < s.size) : spec_l1With.f s i v = some (strOfNums ((bytesOf s).set i (v % 256))) := by
  unfold spec_l1With.f
  rw [if_pos (by omega), if_pos (by omega), if_pos (by omega), Int.toNat_natCast]
theorem withs_eq (s : ByteArray) (i : Nat) (l : List Int) (hs : s.size ≤ 200) (hi : i + l.length ≤ s.size) : impl_withBytes.f s i l = some (strOfNums ((bytesOf s).take i ++ l ++ (bytesOf s).drop (i + l.length))) := by
  have e1 : s.extract 0 ((i : Int)).toNat = strOfNums ((bytesOf s).take i) := by rw [Int.toNat_natCast, str_cut s 0 i (by omega)]; rfl
  have e2 : s.extract (((i + l.length : Nat) : Int)).toNat s.size = strOfNums ((bytesOf s).drop (i + l.length)) := by
    rw [Int.toNat_natCast, str_cut s _ _ (Nat.le_refl _), List.take_of_length_le (by rw [bytesOf_length]; exact Nat.le_refl _)]
  unfold impl_withBytes.f
  rw [w64 (x := (i : Int) + (l.length : Int)) (by omega) (by omega), show (i : Int) + (l.length : Int) = ((i + l.length : Nat) : Int) by omega, e1, e2, str_app, str_app]
  have h1 : (0 : Int) ≤ (i : Int) := by omega
  have h2 : (i : Int) ≤ (s.size : Int) := by omega
  have h3 : (strOfNums ((bytesOf s).take i)).size + (strOfNums l).size ≤ 9223372036854775807 := by rw [strOfNums_size, strOfNums_size, List.length_take]; omega
  have h4 : (0 : Int) ≤ ((i + l.length : Nat) : Int) := by omega
  have h5 : ((i + l.length : Nat) : Int) ≤ (s.size : Int) := by omega
  have h6 : (strOfNums ((bytesOf s).take i ++ l)).size + (strOfNums ((bytesOf s).drop (i + l.length))).size ≤ 9223372036854775807 := by rw [strOfNums_size, strOfNums_size, List.length_append, List.length_take, List.length_drop, bytesOf_length]; omega
  rw [if_pos h1, if_pos h2, if_pos h3, if_pos h4, if_pos h5, if_pos h6]
theorem set_one (l : List Int) (i : Nat) (x : Int) (hi : i < l.length) : l.set i x = l.take i ++ [x] ++ l.drop (i + 1) := by
  rw [List.set_eq_take_append_cons_drop, if_pos hi]
  simp
theorem set_two (l : List Int) (i : Nat) (x y : Int) (hi : i + 1 < l.length) : (l.set i x).set (i + 1) y = l.take i ++ [x, y] ++ l.drop (i + 2) := by
  apply List.ext_getElem?
  intro j
  rw [List.getElem?_set, List.getElem?_set, List.length_set]
  by_cases h1 : j < i
  · rw [if_neg (by omega), if_neg (by omega), List.append_assoc, List.getElem?_append_left (by rw [List.length_take]; omega), List.getElem?_take, if_pos h1]
  · by_cases h2 : j = i
    · subst h2
      rw [if_neg (by omega), if_pos rfl, if_pos (by omega), List.append_assoc, List.getElem?_append_right (by rw [List.length_take]; omega)]
      simp [List.length_take, show min j l.length = j by omega]
    · by_cases h3 : j = i + 1
      · subst h3
        rw [if_pos rfl, if_pos (by omega), List.append_assoc, List.getElem?_append_right (by rw [List.length_take]; omega)]
        simp [List.length_take, show min i l.length = i by omega]
      · rw [if_neg (by omega), if_neg (by omega), List.getElem?_append_right (by rw [List.length_append, List.length_take]; simp; omega), List.getElem?_drop]
        congr 1
        rw [List.length_append, List.length_take]
        simp
        omega
theorem set_in (l : List Int) (h : ∀ x ∈ l, 0 ≤ x ∧ x ≤ 255) (i : Nat) (x : Int) : ∀ y ∈ l.set i (x % 256), 0 ≤ y ∧ y ≤ 255 := by
  intro y hy
  rcases List.mem_or_eq_of_mem_set hy with hy | rfl
  · exact h y hy
  · omega
theorem long_eq (s : ByteArray) : spec_l1Long.f s = some (decide (s.size ≤ 200)) := by
  unfold spec_l1Long.f
  congr 1
  rw [decide_eq_decide]
  omega
theorem within_eq (s : ByteArray) (i n : Int) (hi : -9223372036854775808 ≤ i ∧ i ≤ 9223372036854775807) (hn : 0 ≤ n ∧ n ≤ 2) : impl_within.f s i n = some (decide (s.size ≤ 200 ∧ 0 ≤ i ∧ i < (s.size : Int) ∧ i + n ≤ s.size)) := by
  unfold impl_within.f
  by_cases h1 : (s.size : Int) ≤ 200
  · rw [if_pos h1]
    by_cases h2 : i ≥ 0
    · rw [if_pos h2]
      by_cases h3 : i < (s.size : Int)
      · rw [if_pos h3, w64 (by omega) (by omega)]
        congr 1
        rw [decide_eq_decide]
        omega
      · rw [if_neg h3, decide_eq_false (by omega)]
    · rw [if_neg h2, decide_eq_false (by omega)]
  · rw [if_neg h1, decide_eq_false (by omega)]

-- sums
/-- The sum of the first i bytes, the weighted sum with weight n - j, and the sum of the sums. -/
def sA (s : ByteArray) : Nat → Int
  | 0 => 0
  | i + 1 => sA s i + bt s i
def sW (s : ByteArray) (n : Int) : Nat → Int
  | 0 => 0
  | i + 1 => sW s n i + bt s i * (n - i)
def sB (s : ByteArray) : Nat → Int
  | 0 => 0
  | i + 1 => sB s i + sA s (i + 1)
theorem sA_bd (s : ByteArray) : ∀ i : Nat, 0 ≤ sA s i ∧ sA s i ≤ 255 * i
  | 0 => by simp [sA]
  | i + 1 => by
    have := sA_bd s i
    have := bt_range s i
    simp only [sA]
    omega
theorem sW_bd (s : ByteArray) (n : Int) (hn : n ≤ 200) : ∀ i : Nat, (i : Int) ≤ n → 0 ≤ sW s n i ∧ sW s n i ≤ 51000 * i
  | 0, _ => by simp [sW]
  | i + 1, h => by
    have h1 := sW_bd s n hn i (by omega)
    have h2 := bt_range s i
    have h3 : 0 ≤ bt s i * (n - i) := Int.mul_nonneg h2.1 (by omega)
    have h4 : bt s i * (n - i) ≤ 255 * 200 := Int.mul_le_mul h2.2 (by omega) (by omega) (by omega)
    simp only [sW]
    omega
theorem sB_sW (s : ByteArray) (n : Int) : ∀ i : Nat, sB s i + (n - i) * sA s i = sW s n i
  | 0 => by simp [sA, sB, sW]
  | i + 1 => by
    have h := sB_sW s n i
    simp only [sB, sW, sA]
    have e : (n - ((i + 1 : Nat) : Int)) * (sA s i + bt s i) = (n - i) * sA s i + bt s i * (n - i) - (sA s i + bt s i) := by
      have : (n - ((i + 1 : Nat) : Int)) = (n - i) - 1 := by omega
      rw [this, Int.sub_mul, Int.mul_add, Int.one_mul, Int.mul_comm (bt s i)]
    rw [e]
    omega
theorem spec_sums_l (s : ByteArray) (d : Nat) : ∀ (k i : Nat), i + d = s.size → d < k → s.size ≤ 140737488351232 →
    spec_l1Sums.l0 k s (sA s i % 255) (sB s i % 255) i = some (sA s s.size % 255, sB s s.size % 255) := by
  induction d with
  | zero =>
    intro k i h hk hs
    obtain ⟨k, rfl⟩ : ∃ m, k = m + 1 := ⟨k - 1, by omega⟩
    simp only [spec_l1Sums.l0]
    rw [if_neg (by omega)]
    obtain rfl : i = s.size := by omega
    rfl
  | succ d ih =>
    intro k i h hk hs
    obtain ⟨k, rfl⟩ : ∃ m, k = m + 1 := ⟨k - 1, by omega⟩
    have hb := bt_range s i
    have h1 := ih k (i + 1) (by omega) (by omega) hs
    simp only [spec_l1Sums.l0]
    rw [if_pos (by omega), if_pos (by omega)]
    rw [w64 (x := bt s i) (by omega) (by omega), w64 (x := sA s i % 255 + bt s i) (by omega) (by omega), tm (by omega),
      w64 (x := sB s i % 255 + (sA s i % 255 + bt s i) % 255) (by omega) (by omega), tm (by omega), w64 (x := (i : Int) + 1) (by omega) (by omega)]
    have e1 : (sA s i % 255 + bt s i) % 255 = sA s (i + 1) % 255 := by simp only [sA]; omega
    have e2 : (sB s i % 255 + sA s (i + 1) % 255) % 255 = sB s (i + 1) % 255 := by simp only [sB]; omega
    rw [e1, e2]
    exact h1
theorem spec_sums (s : ByteArray) (k : Nat) (hk : s.size < k) (hs : s.size ≤ 140737488351232) :
    spec_l1Sums.f k s = some (sA s s.size % 255, sB s s.size % 255) := by
  have h := spec_sums_l s s.size k 0 (by omega) hk hs
  unfold spec_l1Sums.f
  simpa [sA, sB] using h
theorem impl_sums_l (s : ByteArray) (d : Nat) : ∀ (k i : Nat), i + d = s.size → d < k → s.size ≤ 200 →
    impl_sums.l0 k s (sA s i) (sW s s.size i) s.size i = some (sA s s.size % 255, sW s s.size s.size % 255) := by
  induction d with
  | zero =>
    intro k i h hk hs
    obtain ⟨k, rfl⟩ : ∃ m, k = m + 1 := ⟨k - 1, by omega⟩
    simp only [impl_sums.l0]
    rw [if_neg (by omega)]
    obtain rfl : i = s.size := by omega
    have := sA_bd s s.size
    have := sW_bd s s.size (by omega) s.size (by omega)
    rw [tm (by omega), tm (by omega)]
  | succ d ih =>
    intro k i h hk hs
    obtain ⟨k, rfl⟩ : ∃ m, k = m + 1 := ⟨k - 1, by omega⟩
    have hb := bt_range s i
    have h1 := ih k (i + 1) (by omega) (by omega) hs
    have ha := sA_bd s i
    have hw := sW_bd s s.size (by omega) i (by omega)
    have h3 : 0 ≤ bt s i * ((s.size : Int) - i) := Int.mul_nonneg hb.1 (by omega)
    have h4 : bt s i * ((s.size : Int) - i) ≤ 255 * 200 := Int.mul_le_mul hb.2 (by omega) (by omega) (by omega)
    simp only [impl_sums.l0]
    rw [if_pos (by omega), if_pos (by omega), if_pos (by omega)]
    rw [w64 (x := bt s i) (by omega) (by omega), w64 (x := sA s i + bt s i) (by omega) (by omega), w64 (x := (s.size : Int) - i) (by omega) (by omega),
      w64 (x := bt s i * ((s.size : Int) - i)) (by omega) (by omega), w64 (x := sW s s.size i + bt s i * ((s.size : Int) - i)) (by omega) (by omega), w64 (x := (i : Int) + 1) (by omega) (by omega)]
    exact h1
theorem impl_sums_f (s : ByteArray) (k : Nat) (hk : s.size < k) (hs : s.size ≤ 200) :
    impl_sums.f k s = some (sA s s.size % 255, sB s s.size % 255) := by
  have h := impl_sums_l s s.size k 0 (by omega) hk hs
  have e := sB_sW s s.size s.size
  have e2 : ((s.size : Int) - s.size) * sA s s.size = 0 := by rw [Int.sub_self, Int.zero_mul]
  unfold impl_sums.f
  rw [show sB s s.size = sW s s.size s.size by omega]
  simpa [sA, sW] using h

-- fill
theorem tm3 (z : Int) : Int.tmod (Int.tmod z 255 + 255) 255 = z % 255 := by
  by_cases h : 0 ≤ z
  · rw [tm h, tm (by omega)]
    omega
  · have e : Int.tmod z 255 = -((-z) % 255) := by
      have := Int.neg_tmod (-z) 255
      rw [Int.neg_neg, tm (x := -z) (by omega)] at this
      exact this
    rw [e, tm (by omega)]
    omega
theorem tmb (z : Int) : -255 < Int.tmod z 255 ∧ Int.tmod z 255 < 255 := by
  by_cases h : 0 ≤ z
  · rw [tm h]
    omega
  · have e : Int.tmod z 255 = -((-z) % 255) := by
      have := Int.neg_tmod (-z) 255
      rw [Int.neg_neg, tm (x := -z) (by omega)] at this
      exact this
    rw [e]
    omega
/-- What a text filled at a place is: t is the text with noughts there. -/
def FillOk (s : ByteArray) (i : Int) (u : ByteArray) : Prop := s.size ≤ 200 ∧ ∃ n : Nat, i = (n : Int) ∧ n + 1 < s.size ∧ ∃ x y : Int, (0 ≤ x ∧ x < 255) ∧ (0 ≤ y ∧ y < 255) ∧ u = strOfNums (((bytesOf s).set n x).set (n + 1) y) ∧
  ∃ t : ByteArray, t = strOfNums (((bytesOf s).set n 0).set (n + 1) 0) ∧ (sA t t.size + x + y) % 255 = 0 ∧ (sB t t.size + x * ((s.size : Int) - n - 1 + 1) + y * ((s.size : Int) - n - 1)) % 255 = 0
theorem fill_arith (A B W a b m x y : Int) (ha : A % 255 = a) (hb : B % 255 = b) (hm : W * a = m) (hx : (-b + m) % 255 = x) (hy : (-a - x) % 255 = y) : (A + x + y) % 255 = 0 ∧ (B + x * (W + 1) + y * W) % 255 = 0 := by
  refine ⟨by omega, ?_⟩
  obtain ⟨q, hq⟩ : ∃ q, y = -a - x + 255 * q := ⟨((-a - x) % 255 - (-a - x)) / 255, by omega⟩
  have e : y * W = -m - x * W + 255 * (q * W) := by
    rw [hq, Int.add_mul, Int.sub_mul, Int.neg_mul, Int.mul_comm a W, hm, Int.mul_assoc]
  rw [e, Int.mul_add, Int.mul_one]
  generalize x * W = P at *
  generalize q * W = Q at *
  omega
theorem fill_is (s : ByteArray) (i : Int) (k : Nat) (hs : s.size ≤ 140737488351232) (hk : s.size < k) (hi : -9223372036854775808 ≤ i ∧ i ≤ 9223372036854775807) :
    ∃ r : ByteArray × Bool, spec_FillSum.f (k + 1) s i = some r ∧ impl_FillSum.f (k + 1) s i = some r ∧ (r.2 = true → FillOk s i r.1) := by
  unfold spec_FillSum.f impl_FillSum.f
  rw [long_eq, within_eq s i 2 hi (by omega)]
  simp only [Option.bind_some, spec_FillSum.j0, if_true]
  by_cases h : s.size ≤ 200
  · rw [if_pos (decide_eq_true h), w64 (x := (s.size : Int) - 1) (by omega) (by omega)]
    by_cases h0 : i < 0
    · rw [if_pos h0, if_neg (by rw [decide_eq_true_eq]; omega)]
      exact ⟨_, rfl, rfl, fun h => absurd h (by decide)⟩
    · rw [if_neg h0]
      by_cases h1 : i ≥ (s.size : Int) - 1
      · rw [if_pos (decide_eq_true h1), if_neg (by rw [decide_eq_true_eq]; omega)]
        exact ⟨_, rfl, rfl, fun h => absurd h (by decide)⟩
      · obtain ⟨n, rfl⟩ : ∃ n : Nat, i = (n : Int) := ⟨i.toNat, by omega⟩
        have hj : s.size ≤ 200 ∧ 0 ≤ (n : Int) ∧ (n : Int) < (s.size : Int) ∧ (n : Int) + 2 ≤ s.size := by omega
        rw [decide_eq_false h1, if_neg Bool.false_ne_true, if_pos (decide_eq_true hj), w64 (x := (n : Int) + 1) (by omega) (by omega)]
        have hb : n + 1 < (bytesOf s).length := by rw [bytesOf_length]; omega
        have hl (x : Int) : (strOfNums ((bytesOf s).set n x)).size = s.size := by rw [strOfNums_size, List.length_set, bytesOf_length]
        have hw (x : Int) := set_in _ (bytes_in s) n x
        have hl2 (x y : Int) : (strOfNums (((bytesOf s).set n x).set (n + 1) y)).size = s.size := by rw [strOfNums_size, List.length_set, List.length_set, bytesOf_length]
        have hw2 (x y : Int) := set_in _ (hw x) (n + 1) y
        have two (x y : Int) : ((spec_l1With.f s n x).bind fun t => spec_l1With.f t ((n : Int) + 1) y) = some (strOfNums (((bytesOf s).set n (x % 256)).set (n + 1) (y % 256))) := by
          rw [with_eq s n _ h (by omega)]
          simp only [Option.bind_some]
          rw [show (n : Int) + 1 = ((n + 1 : Nat) : Int) by omega, with_eq _ (n + 1) _ (by rw [hl]; omega) (by rw [hl]; omega), bytes_str _ (hw _)]
        have e0 := two 0 0
        rw [with_eq s n 0 h (by omega)] at e0
        simp only [Option.bind_some, show (0 : Int) % 256 = 0 from rfl] at e0
        rw [with_eq s n 0 h (by omega), withs_eq s n [0, 0] h (by simp; omega)]
        simp only [Option.bind_some, show (0 : Int) % 256 = 0 from rfl]
        rw [e0, show [(0 : Int), 0].length = 2 from rfl, ← set_two _ _ _ _ hb]
        simp only [Option.bind_some]
        have hz := hl2 0 0
        have hy := hw2 0 0
        rw [show (0 : Int) % 256 = 0 from rfl] at hy
        have hbs : bytesOf (strOfNums (((bytesOf s).set n 0).set (n + 1) 0)) = ((bytesOf s).set n 0).set (n + 1) 0 := bytes_str _ hy
        generalize hT : strOfNums (((bytesOf s).set n 0).set (n + 1) 0) = t at hz hbs
        rw [spec_sums t _ (by omega) (by omega), impl_sums_f t _ (by omega) (by omega)]
        simp only [Option.bind_some]
        have ha : 0 ≤ sA t t.size % 255 ∧ sA t t.size % 255 < 255 := by omega
        have hb2 : 0 ≤ sB t t.size % 255 ∧ sB t t.size % 255 < 255 := by omega
        generalize hA : sA t t.size % 255 = a at ha
        generalize hB : sB t t.size % 255 = b at hb2
        rw [w64 (x := (s.size : Int) - n) (by omega) (by omega), w64 (x := (s.size : Int) - n - 1) (by omega) (by omega)]
        have hm : 0 ≤ ((s.size : Int) - n - 1) * a ∧ ((s.size : Int) - n - 1) * a ≤ 200 * 255 := ⟨Int.mul_nonneg (by omega) ha.1, Int.mul_le_mul (by omega) (by omega) ha.1 (by omega)⟩
        generalize hM : ((s.size : Int) - n - 1) * a = m at hm
        rw [w64 (x := m) (by omega) (by omega), w64 (x := -b) (by omega) (by omega), w64 (x := -b + m) (by omega) (by omega), w64 (x := m + 255) (by omega) (by omega), w64 (x := m + 255 - b) (by omega) (by omega),
          w64 (x := -a) (by omega) (by omega), w64 (x := 510 - a) (by omega) (by omega)]
        have q1 := tmb (-b + m)
        rw [w64 (x := Int.tmod (-b + m) 255 + 255) (by omega) (by omega), tm3, tm (x := m + 255 - b) (by omega), show (m + 255 - b) % 255 = (-b + m) % 255 by omega]
        have hx : 0 ≤ (-b + m) % 255 ∧ (-b + m) % 255 < 255 := by omega
        generalize hX : (-b + m) % 255 = x at hx
        rw [w64 (x := -a - x) (by omega) (by omega), w64 (x := 510 - a - x) (by omega) (by omega)]
        have q2 := tmb (-a - x)
        rw [w64 (x := Int.tmod (-a - x) 255 + 255) (by omega) (by omega), tm3, tm (x := 510 - a - x) (by omega), show (510 - a - x) % 255 = (-a - x) % 255 by omega]
        have hyy : 0 ≤ (-a - x) % 255 ∧ (-a - x) % 255 < 255 := by omega
        generalize hY : (-a - x) % 255 = y at hyy
        rw [with_eq t n x (by omega) (by omega), withs_eq s n [x % 256, y % 256] h (by simp; omega), show [x % 256, y % 256].length = 2 from rfl, ← set_two _ _ _ _ hb, hbs]
        simp only [Option.bind_some]
        have e5 : (((bytesOf s).set n 0).set (n + 1) 0).set n (x % 256) = ((bytesOf s).set n (x % 256)).set (n + 1) 0 := by
          rw [List.set_comm _ _ (by omega), List.set_set]
        rw [e5]
        have hl6 : (strOfNums (((bytesOf s).set n (x % 256)).set (n + 1) 0)).size = s.size := hl2 _ _
        have hw6 := hw2 x 0
        rw [show (0 : Int) % 256 = 0 from rfl] at hw6
        rw [show (n : Int) + 1 = ((n + 1 : Nat) : Int) by omega, with_eq _ (n + 1) y (by omega) (by omega), bytes_str _ hw6, List.set_set]
        exact ⟨_, rfl, rfl, fun _ => ⟨h, n, rfl, by omega, x, y, hx, hyy, by rw [show x % 256 = x by omega, show y % 256 = y by omega], t, hT.symm, fill_arith _ _ _ a b m x y hA hB hM hX hY⟩⟩
  · rw [decide_eq_false h, if_neg Bool.false_ne_true, if_neg (by rw [decide_eq_true_eq]; omega)]
    exact ⟨_, rfl, rfl, fun h => absurd h (by decide)⟩

-- sumset
/-- The weighted sum of a list, with the weight n at its first place. -/
def lw (n : Int) : List Int → Int
  | [] => 0
  | x :: l => x * n + lw (n - 1) l
theorem lw_app : ∀ (a b : List Int) (n : Int), lw n (a ++ b) = lw n a + lw (n - a.length) b
  | [], b, n => by simp [lw]
  | x :: a, b, n => by
    rw [List.cons_append, lw, lw, lw_app a b, List.length_cons, show n - 1 - (a.length : Int) = n - ((a.length + 1 : Nat) : Int) by omega]
    omega
theorem bt_bytes (s : ByteArray) (i : Nat) (h : i < s.size) : (bytesOf s)[i]? = some (bt s i) := by
  have h2 : i < s.data.toList.length := h
  unfold bytesOf bt
  rw [List.getElem?_map, List.getElem?_eq_getElem h2, Option.map_some, dif_pos (show ((i : Int)).toNat < s.size from h)]
  rfl
theorem take_next (s : ByteArray) (i : Nat) (h : i < s.size) : (bytesOf s).take (i + 1) = (bytesOf s).take i ++ [bt s i] := by
  have hl : i < (bytesOf s).length := by rw [bytesOf_length]; exact h
  have e := bt_bytes s i h
  rw [List.getElem?_eq_getElem hl] at e
  rw [List.take_succ_eq_append_getElem hl, Option.some.inj e]
theorem sA_take (s : ByteArray) : ∀ i : Nat, i ≤ s.size → sA s i = ((bytesOf s).take i).sum
  | 0, _ => by simp [sA]
  | i + 1, h => by
    rw [sA, sA_take s i (by omega), take_next s i (by omega), List.sum_append]
    simp
theorem sW_take (s : ByteArray) (n : Int) : ∀ i : Nat, i ≤ s.size → sW s n i = lw n ((bytesOf s).take i)
  | 0, _ => by simp [sW, lw]
  | i + 1, h => by
    rw [sW, sW_take s n i (by omega), take_next s i (by omega), lw_app, lw, lw, List.length_take, bytesOf_length, show min i s.size = i by omega]
    omega
theorem sA_sum (s : ByteArray) : sA s s.size = (bytesOf s).sum := by
  rw [sA_take s s.size (Nat.le_refl _), List.take_of_length_le (by rw [bytesOf_length]; exact Nat.le_refl _)]
theorem sB_sum (s : ByteArray) : sB s s.size = lw s.size (bytesOf s) := by
  have e := sB_sW s s.size s.size
  have e2 : ((s.size : Int) - s.size) * sA s s.size = 0 := by rw [Int.sub_self, Int.zero_mul]
  have e3 := sW_take s s.size s.size (Nat.le_refl _)
  rw [List.take_of_length_le (by rw [bytesOf_length]; exact Nat.le_refl _)] at e3
  omega
theorem sum_two (l : List Int) (i : Nat) (x y : Int) (h : i + 1 < l.length) : ((l.set i x).set (i + 1) y).sum = ((l.set i 0).set (i + 1) 0).sum + x + y := by
  rw [set_two l i x y h, set_two l i 0 0 h, List.sum_append, List.sum_append, List.sum_append, List.sum_append]
  simp
  omega
theorem lw_two (l : List Int) (i : Nat) (x y : Int) (n : Int) (h : i + 1 < l.length) : lw n ((l.set i x).set (i + 1) y) = lw n ((l.set i 0).set (i + 1) 0) + x * (n - i) + y * (n - i - 1) := by
  rw [set_two l i x y h, set_two l i 0 0 h, lw_app, lw_app, lw_app, lw_app]
  simp only [lw, List.length_append, List.length_take, List.length_cons, List.length_nil]
  rw [show min i l.length = i by omega]
  omega
theorem sum_one (l : List Int) (i : Nat) (x : Int) (h : i < l.length) : (l.set i x).sum = (l.set i 0).sum + x := by
  rw [set_one l i x h, set_one l i 0 h, List.sum_append, List.sum_append, List.sum_append, List.sum_append]
  simp
  omega

-- dropi
theorem drop_i (l : List Int) (i : Nat) (h : i < l.length) : l.drop i = rd l i :: l.drop (i + 1) := by
  unfold rd
  rw [Int.toNat_natCast, List.getD_eq_getElem?_getD, List.getElem?_eq_getElem h]
  exact List.drop_eq_getElem_cons h
theorem rd_mem (l : List Int) (i : Nat) (h : i < l.length) : rd l i ∈ l := by
  unfold rd
  rw [Int.toNat_natCast, List.getD_eq_getElem?_getD, List.getElem?_eq_getElem h]
  exact List.getElem_mem h

-- draws
theorem wraps_u64 (n : Int) (h₀ : 0 ≤ n) (h₁ : n < 2 ^ 24) : IntKind.u64.wrap n = n := by
  have h : n < 16777216 := h₁
  rw [IntKind.wrap_u64]
  omega
theorem letterOf (y : Int) : 0 ≤ wrap64 (Go.bits .and .u64 (IntKind.u64.wrap y / 1099511627776) 255) ∧ wrap64 (Go.bits .and .u64 (IntKind.u64.wrap y / 1099511627776) 255) ≤ 255 := by
  have hw := IntKind.wrap_u64 y
  have e : Go.bits .and .u64 (IntKind.u64.wrap y / 1099511627776) 255 = (IntKind.u64.wrap y / 1099511627776) % 256 :=
    bits_mask .u64 24 (by decide) wraps_u64 8 (by decide) _ (by omega) (by show _ < (16777216 : Int); omega)
  rw [e, w64 (by omega) (by omega)]
  omega
/-- The bytes that a drawer reads. -/
def Drawn (l : List Int) : Prop := (∀ x ∈ l, 0 ≤ x ∧ x ≤ 255) ∧ l.length ≤ 1125899906842624
theorem draw_next (l : List Int) (hl : Drawn l) (p st : Int) (h0 : 0 ≤ p) (h1 : p ≤ 1125899906842624) : ∃ v q, spec_l1Cur_next.f l p st = some (v, p + 1, q) ∧ 0 ≤ v ∧ v ≤ 255 := by
  obtain ⟨hl, hn⟩ := hl
  unfold spec_l1Cur_next.f
  rw [w64 (x := p + 1) (by omega) (by omega)]
  by_cases h : p < (l.length : Int)
  · have hm := hl _ (rd_mem l p.toNat (by omega))
    rw [Int.toNat_of_nonneg h0] at hm
    rw [if_pos h, if_pos h0, if_pos (by omega), w64 (x := rd l p) (by omega) (by omega)]
    exact ⟨_, _, rfl, hm⟩
  · rw [if_neg h, if_neg (by omega)]
    exact ⟨_, _, rfl, letterOf _⟩
theorem draw_pick (l : List Int) (hl : Drawn l) (p st n : Int) (h0 : 0 ≤ p) (h1 : p ≤ 1000000000000) (hn : 1 ≤ n) : ∃ v p' q, spec_l1Cur_pick.f l p st n = some (v, p', q) ∧ (0 ≤ v ∧ v < n) ∧ p ≤ p' ∧ p' ≤ p + 2 := by
  unfold spec_l1Cur_pick.f
  by_cases h : n ≤ 1
  · rw [if_pos h]
    exact ⟨_, _, _, rfl, by omega, by omega, by omega⟩
  · obtain ⟨a, q, e, ha⟩ := draw_next l hl p st h0 (by omega)
    rw [if_neg h, e]
    simp only [Option.bind_some]
    by_cases h2 : n > 200
    · obtain ⟨b, q2, e2, hb⟩ := draw_next l hl (p + 1) q (by omega) (by omega)
      rw [if_pos h2, e2]
      simp only [Option.bind_some]
      rw [if_neg (by omega), w64 (x := a * 256) (by omega) (by omega), w64 (by omega) (by omega), tm (by omega)]
      exact ⟨_, _, _, rfl, ⟨Int.emod_nonneg _ (by omega), Int.emod_lt_of_pos _ (by omega)⟩, by omega, by omega⟩
    · rw [if_neg h2, if_neg (by omega), tm (by omega)]
      exact ⟨_, _, _, rfl, ⟨Int.emod_nonneg _ (by omega), Int.emod_lt_of_pos _ (by omega)⟩, by omega, by omega⟩
theorem draw_among (l : List Int) (hl : Drawn l) (p st : Int) (m : List Int) (h0 : 0 ≤ p) (h1 : p ≤ 1000000000000) (hm : 1 ≤ m.length) : ∃ v p' q, spec_l1Cur_among.f l p st m = some (v, p', q) ∧ v ∈ m ∧ p ≤ p' ∧ p' ≤ p + 2 := by
  obtain ⟨v, p', q, e, hv, hp⟩ := draw_pick l hl p st (m.length : Int) h0 h1 (by omega)
  unfold spec_l1Cur_among.f
  rw [e]
  simp only [Option.bind_some]
  rw [if_pos hv.1, if_pos hv.2]
  refine ⟨_, _, _, rfl, ?_, hp⟩
  have := rd_mem m v.toNat (by omega)
  rwa [Int.toNat_of_nonneg hv.1] at this

-- drawone
theorem draw_one (l : List Int) (hl : Drawn l) (p st n : Int) (h0 : 0 ≤ p) (h1 : p ≤ 1000000000000) (hn : 1 ≤ n) : ∃ b p' q, spec_l1Cur_one.f l p st n = some (b, p', q) ∧ p ≤ p' ∧ p' ≤ p + 2 := by
  obtain ⟨v, p', q, e, _, hp⟩ := draw_pick l hl p st n h0 h1 hn
  unfold spec_l1Cur_one.f
  rw [e]
  exact ⟨_, _, _, rfl, hp⟩

-- drawtext
theorem draw_text_l (l : List Int) (hl : Drawn l) (N : Nat) (hN : N ≤ 201) (d : Nat) : ∀ (x : List Int) (i : Nat) (p st : Int), i + d = N → x.length = N → 0 ≤ p → p + 2 * d ≤ 1000 →
    ∃ s p' q, (∀ k, d < k → spec_l1Cur_text.l0 k x N i l p st = some (s, p', q)) ∧ s.size = N ∧ p ≤ p' ∧ p' ≤ p + 2 * d := by
  induction d with
  | zero =>
    intro x i p st hi hx h0 h1
    refine ⟨strOfNums x, p, st, fun k hk => ?_, by rw [strOfNums_size]; exact hx, by omega, by omega⟩
    obtain ⟨k, rfl⟩ : ∃ m, k = m + 1 := ⟨k - 1, by omega⟩
    rw [spec_l1Cur_text.l0, if_neg (by omega)]
  | succ d ih =>
    intro x i p st hi hx h0 h1
    obtain ⟨v, p1, q1, e1, hv, hp1⟩ := draw_pick l hl p st 256 h0 (by omega) (by omega)
    obtain ⟨s, p2, q2, e2, hs, hp2⟩ := ih (x.set i (v % 256)) (i + 1) p1 q1 (by omega) (by rw [List.length_set]; exact hx) (by omega) (by omega)
    refine ⟨s, p2, q2, fun k hk => ?_, hs, by omega, by omega⟩
    obtain ⟨k, rfl⟩ : ∃ m, k = m + 1 := ⟨k - 1, by omega⟩
    rw [spec_l1Cur_text.l0, if_pos (by omega), e1]
    simp only [Option.bind_some]
    rw [if_pos (by omega), if_pos (by omega), w64 (by omega) (by omega), show ((i : Int) + 1) = ((i + 1 : Nat) : Int) by omega, Int.toNat_natCast]
    exact e2 k (by omega)
theorem draw_text (l : List Int) (hl : Drawn l) (p st : Int) (h0 : 0 ≤ p) (h1 : p ≤ 500) : ∃ s p' q, (∀ k, 300 < k → spec_l1Cur_text.f k l p st = some (s, p', q)) ∧ s.size ≤ 201 ∧ p ≤ p' ∧ p' ≤ p + 50 := by
  obtain ⟨b, p1, q1, e1, hp1⟩ := draw_one l hl p st 20 h0 (by omega) (by omega)
  cases b
  · obtain ⟨n, p2, q2, e2, hn, hp2⟩ := draw_pick l hl p1 q1 14 (by omega) (by omega) (by omega)
    obtain ⟨s, p3, q3, e3, hs, hp3⟩ := draw_text_l l hl n.toNat (by omega) n.toNat (List.replicate n.toNat 0) 0 p2 q2 (by omega) (by simp) (by omega) (by omega)
    refine ⟨s, p3, q3, fun k hk => ?_, by omega, by omega, by omega⟩
    unfold spec_l1Cur_text.f
    rw [e1]
    simp only [Option.bind_some]
    rw [if_neg (by decide), e2]
    simp only [Option.bind_some]
    rw [if_pos hn.1, if_pos (by omega), List.length_replicate]
    exact e3 k (by omega)
  · obtain ⟨n, p2, q2, e2, hn, hp2⟩ := draw_among l hl p1 q1 [199, 200, 201] (by omega) (by omega) (by simp)
    have hn2 : 199 ≤ n ∧ n ≤ 201 := by
      simp only [List.mem_cons, List.not_mem_nil, or_false] at hn
      omega
    refine ⟨strOfNums (List.replicate n.toNat 0), p2, q2, fun k hk => ?_, by rw [strOfNums_size, List.length_replicate]; omega, by omega, by omega⟩
    unfold spec_l1Cur_text.f
    rw [e1]
    simp only [Option.bind_some]
    rw [if_pos trivial, e2]
    simp only [Option.bind_some]
    rw [if_pos (by omega), if_pos (by omega)]
theorem draw_fill (l : List Int) (hl : Drawn l) : ∃ (s : ByteArray) (i : Int), (∀ k, 300 < k → spec_DrawFillSum.f k l = some (s, i)) ∧ s.size ≤ 201 ∧ -1 ≤ i ∧ i ≤ s.size := by
  obtain ⟨s, p1, q1, e1, hs, hp1⟩ := draw_text l hl 0 0 (by omega) (by omega)
  obtain ⟨v, p2, q2, e2, hv, hp2⟩ := draw_pick l hl p1 q1 ((s.size : Int) + 2) (by omega) (by omega) (by omega)
  have h0 : wrap64 ((s.size : Int) + 2) = (s.size : Int) + 2 := w64 (by omega) (by omega)
  have h1 : wrap64 (v - 1) = v - 1 := w64 (by omega) (by omega)
  refine ⟨s, v - 1, fun k hk => ?_, hs, by omega, by omega⟩
  refine Option.bind_eq_some_iff.2 ⟨(s, p1, q1), e1 k hk, Option.bind_eq_some_iff.2 ⟨(v, p2, q2), ?_, ?_⟩⟩
  · show spec_l1Cur_pick.f l p1 q1 (wrap64 ((s.size : Int) + 2)) = _
    rw [h0]
    exact e2
  · show some (s, wrap64 (v - 1)) = _
    rw [h1]

theorem mend_is (s : ByteArray) (i : Int) (k : Nat) (hs : s.size ≤ 140737488351232) (hk : s.size < k) (hi : -9223372036854775808 ≤ i ∧ i ≤ 9223372036854775807) :
    ∃ r : ByteArray × Bool, spec_MendByte.f (k + 1) s i = some r ∧ impl_MendByte.f (k + 1) s i = some r ∧ (r.2 = true → r.1.size ≤ 200 ∧ sA r.1 r.1.size % 255 = 0) := by
  unfold spec_MendByte.f impl_MendByte.f
  rw [long_eq, within_eq s i 1 hi (by omega)]
  simp only [Option.bind_some, spec_MendByte.j0, if_true]
  by_cases h : s.size ≤ 200
  · rw [if_pos (decide_eq_true h)]
    by_cases h0 : i < 0
    · rw [if_pos h0, if_neg (by rw [decide_eq_true_eq]; omega)]
      exact ⟨_, rfl, rfl, fun h => absurd h (by decide)⟩
    · rw [if_neg h0]
      by_cases h1 : i ≥ (s.size : Int)
      · rw [if_pos (decide_eq_true h1), if_neg (by rw [decide_eq_true_eq]; omega)]
        exact ⟨_, rfl, rfl, fun h => absurd h (by decide)⟩
      · obtain ⟨n, rfl⟩ : ∃ n : Nat, i = (n : Int) := ⟨i.toNat, by omega⟩
        have hj : s.size ≤ 200 ∧ 0 ≤ (n : Int) ∧ (n : Int) < (s.size : Int) ∧ (n : Int) + 1 ≤ s.size := by omega
        rw [decide_eq_false h1, if_neg Bool.false_ne_true, if_pos (decide_eq_true hj)]
        have hb : n < (bytesOf s).length := by rw [bytesOf_length]; omega
        have hl : (strOfNums ((bytesOf s).set n 0)).size = s.size := by rw [strOfNums_size, List.length_set, bytesOf_length]
        have hw : ∀ y ∈ (bytesOf s).set n 0, 0 ≤ y ∧ y ≤ 255 := by
          have := set_in _ (bytes_in s) n 0
          rwa [show (0 : Int) % 256 = 0 from rfl] at this
        rw [with_eq s n _ h (by omega), withs_eq s n [0] h (by simp; omega), show (0 : Int) % 256 = 0 from rfl]
        simp only [Option.bind_some]
        rw [show [(0 : Int)].length = 1 from rfl, ← set_one _ _ _ hb, spec_sums _ _ (by omega) (by omega), impl_sums_f _ _ (by omega) (by omega)]
        simp only [Option.bind_some]
        have hA : sA (strOfNums ((bytesOf s).set n 0)) (strOfNums ((bytesOf s).set n 0)).size = ((bytesOf s).set n 0).sum := by rw [sA_sum, bytes_str _ hw]
        rw [hA]
        have hm : 0 ≤ ((bytesOf s).set n 0).sum % 255 ∧ ((bytesOf s).set n 0).sum % 255 < 255 := by omega
        rw [w64 (x := 255 - ((bytesOf s).set n 0).sum % 255) (by omega) (by omega), tm (x := 255 - ((bytesOf s).set n 0).sum % 255) (by omega)]
        generalize hx : (255 - ((bytesOf s).set n 0).sum % 255) % 255 = x
        rw [with_eq _ n _ (by omega) (by omega), withs_eq s n [x % 256] h (by simp; omega), show [x % 256].length = 1 from rfl, ← set_one _ _ _ hb, bytes_str _ hw, List.set_set]
        refine ⟨_, rfl, rfl, fun _ => ?_⟩
        have hz : (strOfNums ((bytesOf s).set n (x % 256))).size = s.size := by rw [strOfNums_size, List.length_set, bytesOf_length]
        refine ⟨by show (strOfNums ((bytesOf s).set n (x % 256))).size ≤ 200; omega, ?_⟩
        show sA (strOfNums ((bytesOf s).set n (x % 256))) (strOfNums ((bytesOf s).set n (x % 256))).size % 255 = 0
        rw [sA_sum, bytes_str _ (set_in _ (bytes_in s) n x), sum_one _ _ _ hb]
        omega
  · rw [decide_eq_false h, if_neg Bool.false_ne_true, if_neg (by rw [decide_eq_true_eq]; omega)]
    exact ⟨_, rfl, rfl, fun h => absurd h (by decide)⟩
theorem in_255 (l : List Int) (h : ∀ x ∈ l, 0 ≤ x ∧ x ≤ 255) (i : Nat) (x : Int) (hx : 0 ≤ x ∧ x < 255) : ∀ y ∈ l.set i x, 0 ≤ y ∧ y ≤ 255 := by
  have := set_in l h i x
  rwa [show x % 256 = x by omega] at this
theorem whole_eq (s : ByteArray) (k : Nat) (hk : s.size < k) (hs : s.size ≤ 140737488351232) : spec_IsWhole.f k s = impl_IsWhole.f k s ∧ ∃ r, impl_IsWhole.f k s = some r := by
  unfold spec_IsWhole.f impl_IsWhole.f impl_SumOf.f spec_l1Long.f
  rw [spec_sums s _ hk hs]
  by_cases h1 : s.size ≤ 200
  · rw [impl_sums_f s _ hk h1]
    by_cases h2 : sA s s.size % 255 = 0
    · simp [show (s.size : Int) ≤ 200 by omega, show ¬ (200 : Int) < s.size by omega, h2]
    · simp [show (s.size : Int) ≤ 200 by omega, show ¬ (200 : Int) < s.size by omega, h2]
  · simp [show ¬ (s.size : Int) ≤ 200 by omega, show (200 : Int) < s.size by omega]
theorem fill_good (s : ByteArray) (i : Int) (u : ByteArray) (h : FillOk s i u) : u.size = s.size ∧ u.size ≤ 200 ∧ (0 ≤ i ∧ i + 2 ≤ s.size) ∧ sA u u.size % 255 = 0 ∧ sB u u.size % 255 = 0 ∧ u.extract 0 i.toNat = s.extract 0 i.toNat ∧ u.extract (i + 2).toNat u.size = s.extract (i + 2).toNat s.size := by
  obtain ⟨hs, n, rfl, hn, x, y, hx, hy, rfl, t, rfl, hA, hB⟩ := h
  have hb : n + 1 < (bytesOf s).length := by rw [bytesOf_length]; omega
  have hin : ∀ z ∈ ((bytesOf s).set n x).set (n + 1) y, 0 ≤ z ∧ z ≤ 255 := in_255 _ (in_255 _ (bytes_in s) n x hx) (n + 1) y hy
  have hin0 : ∀ z ∈ ((bytesOf s).set n 0).set (n + 1) 0, 0 ≤ z ∧ z ≤ 255 := in_255 _ (in_255 _ (bytes_in s) n 0 (by omega)) (n + 1) 0 (by omega)
  have hz : (strOfNums (((bytesOf s).set n x).set (n + 1) y)).size = s.size := by rw [strOfNums_size, List.length_set, List.length_set, bytesOf_length]
  have hz0 : (strOfNums (((bytesOf s).set n 0).set (n + 1) 0)).size = s.size := by rw [strOfNums_size, List.length_set, List.length_set, bytesOf_length]
  rw [sA_sum, bytes_str _ hin0] at hA
  rw [sB_sum, bytes_str _ hin0, hz0] at hB
  have hT : ((bytesOf s).set n x).set (n + 1) y = (bytesOf s).take n ++ [x, y] ++ (bytesOf s).drop (n + 2) := set_two _ _ _ _ hb
  refine ⟨hz, by omega, ⟨by omega, by omega⟩, ?_, ?_, ?_, ?_⟩
  · rw [sA_sum, bytes_str _ hin, sum_two _ _ _ _ hb]
    exact hA
  · rw [sB_sum, bytes_str _ hin, hz, lw_two _ _ _ _ _ hb, show (s.size : Int) - n = (s.size : Int) - n - 1 + 1 by omega, show (s.size : Int) - n - 1 + 1 - 1 = (s.size : Int) - n - 1 by omega]
    exact hB
  · rw [Int.toNat_natCast, str_cut _ 0 n (by omega), str_cut s 0 n (by omega), bytes_str _ hin, hT]
    congr 2
    rw [List.append_assoc, List.take_append_of_le_length (by rw [List.length_take]; omega), List.take_take, Nat.min_self]
  · rw [show ((n : Int) + 2).toNat = n + 2 by omega, str_cut _ (n + 2) _ (Nat.le_refl _), str_cut s (n + 2) _ (Nat.le_refl _), bytes_str _ hin, hz, List.take_of_length_le (by rw [List.length_set, List.length_set, bytesOf_length]; omega), List.take_of_length_le (by rw [bytesOf_length]; omega), hT]
    congr 1
    rw [List.drop_append_of_le_length (by rw [List.length_append, List.length_take]; simp; omega), List.drop_of_length_le (by rw [List.length_append, List.length_take]; simp; omega)]
    rfl
theorem whole_yes (u : ByteArray) (k : Nat) (hk : u.size < k) (hs : u.size ≤ 200) (hA : sA u u.size % 255 = 0) (hB : sB u u.size % 255 = 0) : impl_IsWhole.f k u = some (true, true) := by
  unfold impl_IsWhole.f impl_SumOf.f
  rw [impl_sums_f u _ hk hs, if_neg (by omega), hA, hB]
  simp
theorem whole_part (l1 : List Int) (hl : Drawn l1) (k : Nat) (hk : 1000 < k) : laws_FnFilled.j4 k l1 = some true := by
  obtain ⟨k, rfl⟩ : ∃ m, k = m + 2 := ⟨k - 2, by omega⟩
  obtain ⟨s, p1, q1, e1, hs, hp1⟩ := draw_text l1 hl 0 0 (by omega) (by omega)
  obtain ⟨v, p2, q2, e2, hv, hp2⟩ := draw_pick l1 hl p1 q1 ((s.size : Int) + 1) (by omega) (by omega) (by omega)
  obtain ⟨r, f1, _, f3⟩ := fill_is s v k (by omega) (by omega) (by omega)
  obtain ⟨b, p3, q3, e3, hp3⟩ := draw_one l1 hl p2 q2 2 (by omega) (by omega) (by omega)
  have hd : ∃ t : ByteArray, spec_DrawIsWhole.f (k + 1) l1 = some t ∧ t.size ≤ 201 := by
    have h0 : wrap64 ((s.size : Int) + 1) = (s.size : Int) + 1 := w64 (by omega) (by omega)
    have hq : ∀ t : ByteArray, (if r.2 = true then (spec_l1Cur_one.f l1 p2 q2 2).bind fun b => (if b.1 = true then some r.1 else some s) else some s) = some t → spec_DrawIsWhole.f (k + 1) l1 = some t := fun t ht => by
      refine Option.bind_eq_some_iff.2 ⟨(s, p1, q1), e1 _ (by omega), Option.bind_eq_some_iff.2 ⟨(v, p2, q2), ?_, Option.bind_eq_some_iff.2 ⟨r, f1, ht⟩⟩⟩
      show spec_l1Cur_pick.f l1 p1 q1 (wrap64 ((s.size : Int) + 1)) = _
      rw [h0]
      exact e2
    cases hr : r.2
    · exact ⟨s, hq s (by rw [hr, if_neg (by decide)]), hs⟩
    · have := fill_good s v r.1 (f3 hr)
      cases b
      · exact ⟨s, hq s (by rw [hr, if_pos rfl, e3]; rfl), hs⟩
      · exact ⟨r.1, hq r.1 (by rw [hr, if_pos rfl, e3]; rfl), by omega⟩
  obtain ⟨t, ht, hts⟩ := hd
  obtain ⟨g1, w, g2⟩ := whole_eq t (k + 1) (by omega) (by omega)
  rw [show k + 2 = (k + 1) + 1 from rfl, laws_FnFilled.j4, ht]
  simp only [Option.bind_some]
  rw [g1, g2]
  simp
theorem mend_part (l1 : List Int) (hl : Drawn l1) (k : Nat) (hk : 1010 < k) : laws_FnFilled.j2 k l1 = some true := by
  obtain ⟨k, rfl⟩ : ∃ m, k = m + 3 := ⟨k - 3, by omega⟩
  obtain ⟨s, i, e, hs, hi0, hi1⟩ := draw_fill l1 hl
  obtain ⟨r, m1, m2, m3⟩ := mend_is s i (k + 1) (by omega) (by omega) (by omega)
  have hd : spec_DrawMendByte.f (k + 2) l1 = some (s, i) := by
    unfold spec_DrawMendByte.f
    rw [e _ (by omega)]
    rfl
  rw [show k + 3 = (k + 2) + 1 from rfl, laws_FnFilled.j2, hd]
  simp only [Option.bind_some]
  rw [m1, m2]
  simp only [Option.bind_some, bne_self_eq_false, Bool.false_eq_true, if_false]
  rw [show k + 2 = (k + 1) + 1 from rfl, laws_FnFilled.j3, if_neg (by decide)]
  cases hr : r.2
  · rw [if_neg (by decide)]
    exact whole_part l1 hl _ (by omega)
  · obtain ⟨h1, h2⟩ := m3 hr
    rw [if_pos rfl]
    unfold impl_SumOf.f
    rw [if_neg (by omega), impl_sums_f r.1 _ (by omega) h1, h2]
    simp only [Option.bind_some, if_true]
    exact whole_part l1 hl _ (by omega)
theorem FnFilled : laws_FnFilled.PureS := by
  intro l m ⟨hl, hl2⟩ ⟨hm, hm2⟩
  have u8 (x : Int) (h : (Lit.int .u8 x).wf = true) : 0 ≤ x ∧ x ≤ 255 := by
    simp [Lit.wf, IntKind.min, IntKind.max, IntKind.signed, IntKind.bits] at h
    omega
  have dl : Drawn l := ⟨fun x hx => u8 x (hl2 x hx), by omega⟩
  have dm : Drawn m := ⟨fun x hx => u8 x (hm2 x hx), by omega⟩
  obtain ⟨K, hK⟩ : ∃ K, K = 2000 := ⟨_, rfl⟩
  refine ⟨K + 3, ?_⟩
  unfold laws_FnFilled.f
  by_cases h0 : wrap64 ((l.length : Int) + (m.length : Int)) > 1048576
  · rw [if_pos h0]
  rw [if_neg h0]
  obtain ⟨s, i, e, hs, hi0, hi1⟩ := draw_fill l dl
  obtain ⟨r, f1, f2, f3⟩ := fill_is s i (K + 2) (by omega) (by omega) (by omega)
  rw [e _ (by omega)]
  simp only [Option.bind_some]
  rw [f1, f2]
  simp only [Option.bind_some, bne_self_eq_false, Bool.false_eq_true, if_false]
  rw [show K + 3 = (K + 2) + 1 from rfl, laws_FnFilled.j0, if_neg (by decide)]
  cases hr : r.2
  · rw [if_neg (by decide)]
    exact mend_part m dm _ (by omega)
  · obtain ⟨g1, g2, g3, g4, g5, g6, g7⟩ := fill_good s i r.1 (f3 hr)
    rw [if_pos rfl, whole_yes r.1 _ (by omega) g2 g4 g5]
    simp only [Option.bind_some, if_true]
    rw [w64 (x := i + 2) (by omega) (by omega), if_pos (by omega), if_pos g3.1, if_pos (by omega), if_pos (by omega), g6, if_pos rfl, if_pos (by omega), if_pos (by omega), if_pos (by omega), g7, bne_self_eq_false, show K + 2 = (K + 1) + 1 from rfl, laws_FnFilled.j1, if_neg (by decide)]
    exact mend_part m dm _ (by omega)

end Go.Proofs.Ytmagnbbpbhmacaa.Pure
