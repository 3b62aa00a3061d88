/- FnExactSwapTwo answers true for each text and each place. No condition beyond the row's own bounds. -/
import Derived.Test.YtmagnbbpbhmacaaSFnExactSwapTwo
namespace Go.Proofs.Ytmagnbbpbhmacaa.Pure
open Go.RowKit Go.Proofs.Ytmagnbbpbhmacaa.PFnExactSwapTwo Go.Proofs.YtmagnbbpbhmacaaW.PrintWords Go.Proofs.YtmagnbbpbhmacaaW.PrintLast
set_option linter.unusedVariables false
set_option linter.unusedSimpArgs false

-- w64
theorem w64 {x : Int} (h0 : -9223372036854775808 ≤ x) (h1 : x ≤ 9223372036854775807) : wrap64 x = x := by
  unfold wrap64
  omega
theorem tm {x y : Int} (h0 : 0 ≤ x) : Int.tmod x y = x % y := Int.tmod_eq_emod_of_nonneg h0
theorem wf64 {x : Int} (h : (Lit.int .i64 x).wf = true) : -9223372036854775808 ≤ x ∧ x ≤ 9223372036854775807 := by
  simp [Lit.wf, IntKind.min, IntKind.max, IntKind.signed, IntKind.bits] at h
  omega

-- withs
theorem bytes_str (l : List Int) (h : ∀ x ∈ l, 0 ≤ x ∧ x ≤ 255) : bytesOf (strOfNums l) = l := by
  unfold bytesOf
  rw [strOfNums_data, List.map_map]
  conv => rhs; rw [← List.map_id l]
  apply List.map_congr_left
  intro x hx
  have := h x hx
  simp [Function.comp]
  omega
theorem str_bytes (s : ByteArray) : strOfNums (bytesOf s) = s := by
  have h : (strOfNums (bytesOf s)).data.toList = s.data.toList := by
    rw [strOfNums_data]
    unfold bytesOf
    rw [List.map_map]
    conv => rhs; rw [← List.map_id s.data.toList]
    apply List.map_congr_left
    intro x _
    simp [Function.comp]
  obtain ⟨⟨a⟩⟩ := s
  exact congrArg (fun l : List UInt8 => (⟨⟨l⟩⟩ : ByteArray)) h
theorem bytes_in (s : ByteArray) : ∀ x ∈ bytesOf s, 0 ≤ x ∧ x ≤ 255 := by
  intro x hx
  unfold bytesOf at hx
  obtain ⟨b, _, rfl⟩ := List.mem_map.1 hx
  have := b.toNat_lt
  omega
theorem str_app (a b : List Int) : strOfNums a ++ strOfNums b = strOfNums (a ++ b) := by
  have h : (strOfNums a ++ strOfNums b).data.toList = (strOfNums (a ++ b)).data.toList := by
    rw [strOfNums_data, ByteArray.data_append, Array.toList_append, strOfNums_data, strOfNums_data, List.map_append]
  generalize strOfNums a ++ strOfNums b = x at h
  generalize strOfNums (a ++ b) = y at h
  obtain ⟨⟨x⟩⟩ := x
  obtain ⟨⟨y⟩⟩ := y
  exact congrArg (fun l : List UInt8 => (⟨⟨l⟩⟩ : ByteArray)) h
theorem str_cut (s : ByteArray) (i j : Nat) (hj : j ≤ s.size) : s.extract i j = strOfNums (((bytesOf s).take j).drop i) := by
  have h : (s.extract i j).data.toList = (strOfNums (((bytesOf s).take j).drop i)).data.toList := by
    rw [strOfNums_data, ByteArray.data_extract, Array.toList_extract]
    unfold bytesOf
    rw [List.map_drop, List.map_take, List.map_map]
    rw [show (fun n : Int => UInt8.ofNat n.toNat) ∘ (fun b : UInt8 => (b.toNat : Int)) = id by funext b; simp [Function.comp]]
    rw [List.map_id]
    simp [List.extract, List.drop_take]
  generalize s.extract i j = x at h
  generalize strOfNums (((bytesOf s).take j).drop i) = y at h
  obtain ⟨⟨x⟩⟩ := x
  obtain ⟨⟨y⟩⟩ := y
  exact congrArg (fun l : List UInt8 => (⟨⟨l⟩⟩ : ByteArray)) h
theorem with_eq (s : ByteArray) (i : Nat) (v : Int) (hs : s.size ≤ 200) (hi : i < s.size) : spec_l1With.f s i v = some (strOfNums ((bytesOf s).set i (v % 256))) := by
  unfold spec_l1With.f
  rw [if_pos (by omega), if_pos (by omega), if_pos (by omega), Int.toNat_natCast]
theorem withs_eq (s : ByteArray) (i : Nat) (l : List Int) (hs : s.size ≤ 200) (hi : i + l.length ≤ s.size) : impl_withBytes.f s i l = some (strOfNums ((bytesOf s).take i ++ l ++ (bytesOf s).drop (i + l.length))) := by
  have e1 : s.extract 0 ((i : Int)).toNat = strOfNums ((bytesOf s).take i) := by rw [Int.toNat_natCast, str_cut s 0 i (by omega)]; rfl
  have e2 : s.extract (((i + l.length : Nat) : Int)).toNat s.size = strOfNums ((bytesOf s).drop (i + l.length)) := by
    rw [Int.toNat_natCast, str_cut s _ _ (Nat.le_refl _), List.take_of_length_le (by rw [bytesOf_length]; exact Nat.le_refl _)]
  unfold impl_withBytes.f
  rw [w64 (x := (i : Int) + (l.length : Int)) (by omega) (by omega), show (i : Int) + (l.length : Int) = ((i + l.length : Nat) : Int) by omega, e1, e2, str_app, str_app]
  have h1 : (0 : Int) ≤ (i : Int) := by omega
  have h2 : (i : Int) ≤ (s.size : Int) := by omega
  have h3 : (strOfNums ((bytesOf s).take i)).size + (strOfNums l).size ≤ 9223372036854775807 := by rw [strOfNums_size, strOfNums_size, List.length_take]; omega
  have h4 : (0 : Int) ≤ ((i + l.length : Nat) : Int) := by omega
  have h5 : ((i + l.length : Nat) : Int) ≤ (s.size : Int) := by omega
  have h6 : (strOfNums ((bytesOf s).take i ++ l)).size + (strOfNums ((bytesOf s).drop (i + l.length))).size ≤ 9223372036854775807 := by rw [strOfNums_size, strOfNums_size, List.length_append, List.length_take, List.length_drop, bytesOf_length]; omega
  rw [if_pos h1, if_pos h2, if_pos h3, if_pos h4, if_pos h5, if_pos h6]
theorem set_one (l : List Int) (i : Nat) (x : Int) (hi : i < l.length) : l.set i x = l.take i ++ [x] ++ l.drop (i + 1) := by
  rw [List.set_eq_take_append_cons_drop, if_pos hi]
  simp
theorem set_two (l : List Int) (i : Nat) (x y : Int) (hi : i + 1 < l.length) : (l.set i x).set (i + 1) y = l.take i ++ [x, y] ++ l.drop (i + 2) := by
  apply List.ext_getElem?
  intro j
  rw [List.getElem?_set, List.getElem?_set, List.length_set]
  by_cases h1 : j < i
  · rw [if_neg (by omega), if_neg (by omega), List.append_assoc, List.getElem?_append_left (by rw [List.length_take]; omega), List.getElem?_take, if_pos h1]
  · by_cases h2 : j = i
    · subst h2
      rw [if_neg (by omega), if_pos rfl, if_pos (by omega), List.append_assoc, List.getElem?_append_right (by rw [List.length_take]; omega)]
      simp [List.length_take, show min j l.length = j by omega]
    · by_cases h3 : j = i + 1
      · subst h3
        rw [if_pos rfl, if_pos (by omega), List.append_assoc, List.getElem?_append_right (by rw [List.length_take]; omega)]
        simp [List.length_take, show min i l.length = i by omega]
      · rw [if_neg (by omega), if_neg (by omega), List.getElem?_append_right (by rw [List.length_append, List.length_take]; simp; omega), List.getElem?_drop]
        congr 1
        rw [List.length_append, List.length_take]
        simp
        omega
theorem set_in (l : List Int) (h : ∀ x ∈ l, 0 ≤ x ∧ x ≤ 255) (i : Nat) (x : Int) : ∀ y ∈ l.set i (x % 256), 0 ≤ y ∧ y ≤ 255 := by
  intro y hy
  rcases List.mem_or_eq_of_mem_set hy with hy | rfl
  · exact h y hy
  · omega
theorem long_eq (s : ByteArray) : spec_l1Long.f s = some (decide (s.size ≤ 200)) := by
  unfold spec_l1Long.f
  congr 1
  rw [decide_eq_decide]
  omega
theorem within_eq (s : ByteArray) (i n : Int) (hi : -9223372036854775808 ≤ i ∧ i ≤ 9223372036854775807) (hn : 0 ≤ n ∧ n ≤ 2) : impl_within.f s i n = some (decide (s.size ≤ 200 ∧ 0 ≤ i ∧ i < (s.size : Int) ∧ i + n ≤ s.size)) := by
  unfold impl_within.f
  by_cases h1 : (s.size : Int) ≤ 200
  · rw [if_pos h1]
    by_cases h2 : i ≥ 0
    · rw [if_pos h2]
      by_cases h3 : i < (s.size : Int)
      · rw [if_pos h3, w64 (by omega) (by omega)]
        congr 1
        rw [decide_eq_decide]
        omega
      · rw [if_neg h3, decide_eq_false (by omega)]
    · rw [if_neg h2, decide_eq_false (by omega)]
  · rw [if_neg h1, decide_eq_false (by omega)]

theorem swap_both (s : ByteArray) (i : Int) (k : Nat) (hs : s.size ≤ 140737488351232) (hi : -9223372036854775808 ≤ i ∧ i ≤ 9223372036854775807) :
    ∃ r : ByteArray × Bool, spec_SwapTwo.f (k + 1) s i = some r ∧ impl_SwapTwo.f s i = some r := by
  unfold spec_SwapTwo.f impl_SwapTwo.f
  rw [long_eq, within_eq s i 2 hi (by omega)]
  simp only [Option.bind_some, spec_SwapTwo.j0, if_true]
  by_cases h : s.size ≤ 200
  · rw [if_pos (decide_eq_true h), w64 (x := (s.size : Int) - 1) (by omega) (by omega)]
    by_cases h0 : i < 0
    · rw [if_pos h0, if_neg (by rw [decide_eq_true_eq]; omega)]
      exact ⟨_, rfl, rfl⟩
    · rw [if_neg h0]
      by_cases h1 : i ≥ (s.size : Int) - 1
      · rw [if_pos (decide_eq_true h1), if_neg (by rw [decide_eq_true_eq]; omega)]
        exact ⟨_, rfl, rfl⟩
      · obtain ⟨n, rfl⟩ : ∃ n : Nat, i = (n : Int) := ⟨i.toNat, by omega⟩
        have b1 := bt_range s ((n : Int) + 1)
        have b0 := bt_range s (n : Int)
        have hj : s.size ≤ 200 ∧ 0 ≤ (n : Int) ∧ (n : Int) < (s.size : Int) ∧ (n : Int) + 2 ≤ s.size := by omega
        rw [decide_eq_false h1, if_neg Bool.false_ne_true, if_pos (decide_eq_true hj), w64 (x := (n : Int) + 1) (by omega) (by omega)]
        have g1 : (0 : Int) ≤ (n : Int) + 1 := by omega
        have g2 : (n : Int) + 1 < (s.size : Int) := by omega
        have g3 : (0 : Int) ≤ (n : Int) := by omega
        have g4 : (n : Int) < (s.size : Int) := by omega
        rw [if_pos g1, if_pos g2, if_pos g1, if_pos g2, if_pos g3, if_pos g4, w64 (x := bt s ((n : Int) + 1)) (by omega) (by omega), w64 (x := bt s (n : Int)) (by omega) (by omega),
          with_eq s n _ h (by omega), withs_eq s n [bt s ((n : Int) + 1), bt s (n : Int)] h (by simp; omega)]
        simp only [Option.bind_some]
        rw [if_pos g3, if_pos g4]
        have hl : (strOfNums ((bytesOf s).set n (bt s ((n : Int) + 1) % 256))).size = s.size := by rw [strOfNums_size, List.length_set, bytesOf_length]
        rw [show (n : Int) + 1 = ((n + 1 : Nat) : Int) by omega] at *
        rw [with_eq _ (n + 1) _ (by omega) (by omega), bytes_str _ (set_in _ (bytes_in s) _ _), set_two _ _ _ _ (by rw [bytesOf_length]; omega)]
        rw [show bt s ((n + 1 : Nat) : Int) % 256 = bt s ((n + 1 : Nat) : Int) by omega, show bt s (n : Int) % 256 = bt s (n : Int) by omega]
        exact ⟨_, rfl, rfl⟩
  · rw [decide_eq_false h, if_neg Bool.false_ne_true, if_neg (by rw [decide_eq_true_eq]; omega)]
    exact ⟨_, rfl, rfl⟩
theorem FnExactSwapTwo : laws_FnExactSwapTwo.PureS := by
  intro s i hs hi
  refine ⟨1, ?_⟩
  obtain ⟨r, e1, e2⟩ := swap_both s i 0 hs (wf64 hi)
  unfold laws_FnExactSwapTwo.f
  by_cases h0 : (s.size : Int) > 1048576
  · rw [if_pos h0]
  · rw [if_neg h0, e1, e2]
    simp

end Go.Proofs.Ytmagnbbpbhmacaa.Pure
