/- FnExactLeadersBy answers true for each list of bridges and each list of what each sees. No condition beyond the row's own bounds. -/
import Derived.Test.YtnemglgbginbdaaSFnExactLeadersBy
namespace Go.Proofs.Ytnemglgbginbdaa.Pure
open Go.RowKit Go.Proofs.Ytnemglgbginbdaa.PFnExactLeadersBy Go.Proofs.YtnemglgbginbdaaW.PrintWords Go.Proofs.YtnemglgbginbdaaW.PrintLast
set_option linter.unusedVariables false
set_option linter.unusedSimpArgs false

-- w64
theorem w64 {x : Int} (h0 : -9223372036854775808 ≤ x) (h1 : x ≤ 9223372036854775807) : wrap64 x = x := by
  unfold wrap64
  omega
theorem tm {x y : Int} (h0 : 0 ≤ x) : Int.tmod x y = x % y := Int.tmod_eq_emod_of_nonneg h0
theorem wf64 {x : Int} (h : (Lit.int .i64 x).wf = true) : -9223372036854775808 ≤ x ∧ x ≤ 9223372036854775807 := by
  simp [Lit.wf, IntKind.min, IntKind.max, IntKind.signed, IntKind.bits] at h
  omega

-- helps
theorem set_take {α : Type} (m L : List α) (i : Nat) (hi : i < L.length) (hm : m.length = L.length) (ht : m.take i = L.take i) (v : α) (hv : L[i]? = some v) : (m.set i v).take (i + 1) = L.take (i + 1) := by
  rw [List.take_set, List.take_succ_eq_append_getElem (by omega), List.take_succ_eq_append_getElem hi, ht, List.set_append_right _ _ (by rw [List.length_take]; omega)]
  rw [List.length_take, show i - min i L.length = 0 by omega]
  rw [List.getElem?_eq_getElem hi] at hv
  rw [Option.some.inj hv]
  rfl
/-- From some number of rounds on: one number for a pair. -/
theorem ev_at {α : Type} {g : Nat → Option α} {r : α} (h : Ev g r) : ∃ K, ∀ k, K ≤ k → g k = some r := h
theorem ev_some {α : Type} {g : Nat → Option α} {r : α} (h : ∀ k, g k = some r) : Ev g r := ⟨0, fun k _ => h k⟩
theorem ev_ge {α : Type} {g : Nat → Option α} {r : α} (K : Nat) (h : ∀ k, K ≤ k → g k = some r) : Ev g r := ⟨K, h⟩

-- toints
theorem toI_l (l : List Int) (hn : l.length ≤ 35184372088832) (d : Nat) : ∀ (k i : Nat) (m : List Int), i + d = l.length → m.length = l.length → m.take i = l.take i → d < k →
    laws_toIntS.l0 k l m i = some l := by
  induction d with
  | zero =>
    intro k i m h hm ht hk
    obtain ⟨k, rfl⟩ : ∃ m, k = m + 1 := ⟨k - 1, by omega⟩
    simp only [laws_toIntS.l0]
    rw [if_neg (by omega)]
    obtain rfl : i = l.length := by omega
    rw [List.take_length, ← hm, List.take_length] at ht
    rw [ht]
  | succ d ih =>
    intro k i m h hm ht hk
    obtain ⟨k, rfl⟩ : ∃ m, k = m + 1 := ⟨k - 1, by omega⟩
    simp only [laws_toIntS.l0]
    rw [if_pos (by omega), if_pos (by omega), if_pos (by omega), w64 (by omega) (by omega), show ((i : Int) + 1) = ((i + 1 : Nat) : Int) by omega]
    refine ih k (i + 1) _ (by omega) (by rw [List.length_set]; exact hm) ?_ (by omega)
    unfold rd
    rw [Int.toNat_natCast, List.take_set, List.take_succ_eq_append_getElem (by omega), List.take_succ_eq_append_getElem (by omega), ht,
      List.set_append_right _ _ (by rw [List.length_take]; omega)]
    simp [List.length_take, List.getD_eq_getElem?_getD, show i < l.length by omega, show min i l.length = i by omega]
theorem toI (l : List Int) (k : Nat) (hn : l.length ≤ 35184372088832) (hk : l.length < k) : laws_toIntS.f k l = some l := by
  unfold laws_toIntS.f
  rw [if_pos (by omega), if_pos (by omega)]
  exact toI_l l hn l.length k 0 _ (by omega) (by simp) (by simp) hk

-- upfrom
/-- n, n + 1, .., in so many places. -/
def upFrom (m : Int) (n : Nat) : List Int := (List.range n).map fun i : Nat => m + i
theorem upFrom_len (m : Int) (n : Nat) : (upFrom m n).length = n := by simp [upFrom]
theorem rd_nat (l : List Int) (i : Nat) : rd l i = l.getD i 0 := by simp [rd]
theorem rd_upFrom (m : Int) (n i : Nat) (h : i < n) : rd (upFrom m n) i = m + i := by
  simp [rd, upFrom, h]

-- eqi
theorem eqI_l (a b : List Int) (hl : a.length = b.length) (hn : a.length ≤ 4611686018427387904) (d : Nat) : ∀ (k i : Nat), i + d = a.length → d < k →
    laws_eqIntS.l0 k a b i = some (decide (a.drop i = b.drop i)) := by
  induction d with
  | zero =>
    intro k i h hk
    obtain ⟨k, rfl⟩ : ∃ m, k = m + 1 := ⟨k - 1, by omega⟩
    simp only [laws_eqIntS.l0]
    rw [if_neg (by omega), List.drop_of_length_le (by omega), List.drop_of_length_le (by omega)]
    simp
  | succ d ih =>
    intro k i h hk
    obtain ⟨k, rfl⟩ : ∃ m, k = m + 1 := ⟨k - 1, by omega⟩
    have h1 := ih k (i + 1) (by omega) (by omega)
    simp only [laws_eqIntS.l0]
    rw [if_pos (by omega), if_pos (by omega), if_pos (by omega), rd_nat, rd_nat, w64 (by omega) (by omega)]
    have ea : a.drop i = a.getD i 0 :: a.drop (i + 1) := by
      rw [List.getD_eq_getElem?_getD, List.getElem?_eq_getElem (by omega)]
      exact List.drop_eq_getElem_cons (by omega)
    have eb : b.drop i = b.getD i 0 :: b.drop (i + 1) := by
      rw [List.getD_eq_getElem?_getD, List.getElem?_eq_getElem (by omega)]
      exact List.drop_eq_getElem_cons (by omega)
    by_cases e : a.getD i 0 = b.getD i 0
    · rw [if_pos e]
      rw [show ((i : Int) + 1) = ((i + 1 : Nat) : Int) by omega, h1, ea, eb, e]
      simp
    · rw [if_neg e, ea, eb, decide_eq_false (fun h => e (List.cons.inj h).1)]
theorem eqI (a b : List Int) (k : Nat) (hn : a.length ≤ 4611686018427387904) (hk : a.length < k) : laws_eqIntS.f k a b = some (decide (a = b)) := by
  unfold laws_eqIntS.f
  by_cases hl : a.length = b.length
  · rw [if_pos (by omega)]
    simpa using eqI_l a b hl hn a.length k 0 (by omega) hk
  · rw [if_neg (by omega)]
    have : a ≠ b := fun e => hl (by rw [e])
    simp [this]

-- marki
theorem markI_l (m : Int) (hm : 0 ≤ m ∧ m ≤ 4611686018427387904) (d : Nat) : ∀ (k i : Nat) (l : List Int), i + d = l.length → l.length ≤ 2305843009213693952 → d < k → l.take i = upFrom m i →
    laws_markIntS.l0 k l (m + i) i = some (m + l.length, upFrom m l.length) := by
  induction d with
  | zero =>
    intro k i l h hn hk ht
    obtain ⟨k, rfl⟩ : ∃ m, k = m + 1 := ⟨k - 1, by omega⟩
    simp only [laws_markIntS.l0]
    rw [if_neg (by omega)]
    obtain rfl : i = l.length := by omega
    rw [List.take_length] at ht
    rw [← ht]
  | succ d ih =>
    intro k i l h hn hk ht
    obtain ⟨k, rfl⟩ : ∃ m, k = m + 1 := ⟨k - 1, by omega⟩
    simp only [laws_markIntS.l0]
    rw [if_pos (by omega), if_pos (by omega), w64 (x := m + i + 1) (by omega) (by omega), w64 (x := (i : Int) + 1) (by omega) (by omega)]
    have h1 := ih k (i + 1) (l.set (i : Int).toNat (m + i)) (by rw [List.length_set]; omega) (by rw [List.length_set]; omega) (by omega) ?_
    · rw [List.length_set] at h1
      rw [show m + (i : Int) + 1 = m + ((i + 1 : Nat) : Int) by omega, show (i : Int) + 1 = ((i + 1 : Nat) : Int) by omega]
      exact h1
    · rw [Int.toNat_natCast, List.take_set]
      rw [show List.take (i + 1) l = List.take i l ++ [l.getD i 0] by
        rw [List.take_succ_eq_append_getElem (by omega), List.getD_eq_getElem?_getD, List.getElem?_eq_getElem (by omega)]; rfl]
      rw [ht, List.set_append_right _ _ (by rw [upFrom_len]; omega), upFrom_len]
      simp [upFrom, List.range_succ]
theorem markI (l : List Int) (m : Int) (k : Nat) (hm : 0 ≤ m ∧ m ≤ 4611686018427387904) (hn : l.length ≤ 2305843009213693952) (hk : l.length < k) :
    laws_markIntS.f k l m = some (m + l.length, upFrom m l.length) := by
  have h := markI_l m hm l.length k 0 l (by omega) hn hk (by simp [upFrom])
  unfold laws_markIntS.f
  simpa using h
theorem heldI_l (m : Int) (hm : 0 ≤ m ∧ m ≤ 4611686018427387904) (n : Nat) (hn : n ≤ 2305843009213693952) (d : Nat) : ∀ (k i : Nat), i + d = n → d < k →
    laws_heldIntS.l0 k (upFrom m n) (m + i) i = some (m + n) := by
  induction d with
  | zero =>
    intro k i h hk
    obtain ⟨k, rfl⟩ : ∃ m, k = m + 1 := ⟨k - 1, by omega⟩
    simp only [laws_heldIntS.l0]
    rw [if_neg (by rw [upFrom_len]; omega)]
    obtain rfl : i = n := by omega
    rfl
  | succ d ih =>
    intro k i h hk
    obtain ⟨k, rfl⟩ : ∃ m, k = m + 1 := ⟨k - 1, by omega⟩
    have h1 := ih k (i + 1) (by omega) (by omega)
    simp only [laws_heldIntS.l0]
    rw [if_pos (by rw [upFrom_len]; omega), if_pos (by omega), rd_upFrom m n i (by omega), if_pos rfl, w64 (x := m + i + 1) (by omega) (by omega), w64 (x := (i : Int) + 1) (by omega) (by omega)]
    rw [show m + (i : Int) + 1 = m + ((i + 1 : Nat) : Int) by omega, show (i : Int) + 1 = ((i + 1 : Nat) : Int) by omega]
    exact h1
theorem heldI (m : Int) (n k : Nat) (hm : 0 ≤ m ∧ m ≤ 4611686018427387904) (hn : n ≤ 2305843009213693952) (hk : n < k) : laws_heldIntS.f k (upFrom m n) m = some (m + n) := by
  have h := heldI_l m hm n hn n k 0 (by omega) hk
  unfold laws_heldIntS.f
  simpa using h

-- intss
theorem rdL_at (l : List (List Int)) (i : Nat) (h : i < l.length) : rd_L4 l i = l[i] := by
  simp [rd_L4, List.getD_eq_getElem?_getD, List.getElem?_eq_getElem h]
theorem rdL_mid (a : List (List Int)) (x : List Int) (b : List (List Int)) : rd_L4 (a ++ x :: b) (a.length : Int) = x := by
  rw [rdL_at _ _ (by simp)]
  simp
theorem setL_mid (a : List (List Int)) (x y : List Int) (b : List (List Int)) : (a ++ x :: b).set ((a.length : Int)).toNat y = (a ++ [y]) ++ b := by
  rw [Int.toNat_natCast, List.set_append_right _ _ (Nat.le_refl _), Nat.sub_self]
  simp
theorem len_mid {α : Type} (a : List α) (x : α) (b : List α) : (a.length : Int) < ((a ++ x :: b).length : Int) := by
  rw [List.length_append, List.length_cons]; omega
theorem next_mid {α : Type} (a : List α) (x : α) (h : a.length ≤ 4611686018427387904) : wrap64 ((a.length : Int) + 1) = ((a ++ [x]).length : Int) := by
  rw [w64 (by omega) (by omega), List.length_append, List.length_singleton]; omega
theorem szSS_l : ∀ (l a : List (List Int)) (m : Int) (k : Nat), (∀ x ∈ l, x.length ≤ 140737488351232) → 0 ≤ m ∧ m ≤ 1048576 → (a ++ l).length ≤ 140737488351232 → l.length < k →
    ∃ r, laws_szIntSS.l0 k (a ++ l) m a.length = some r ∧ (r < 0 ∨ (0 ≤ r ∧ ∀ x ∈ l, x.length ≤ 1048576))
  | [], a, m, k, _, hm, _, hk => by
    obtain ⟨k, rfl⟩ : ∃ m, k = m + 1 := ⟨k - 1, by omega⟩
    simp only [laws_szIntSS.l0, List.append_nil]
    rw [if_neg (by omega)]
    exact ⟨m, rfl, Or.inr ⟨hm.1, fun x hx => absurd hx (List.not_mem_nil)⟩⟩
  | x :: l, a, m, k, hb, hm, hl, hk => by
    obtain ⟨k, rfl⟩ : ∃ m, k = m + 1 := ⟨k - 1, by omega⟩
    have hx := hb x List.mem_cons_self
    have ha : a.length ≤ 140737488351232 := by rw [List.length_append] at hl; omega
    rw [List.length_cons] at hk
    simp only [laws_szIntSS.l0]
    rw [if_pos (len_mid a x l), if_pos (by omega), rdL_mid, next_mid a x (by omega)]
    unfold laws_szIntS.f
    rw [w64 (by omega) (by omega)]
    by_cases h0 : m - (x.length : Int) < 0
    · rw [if_pos h0]
      exact ⟨-1, rfl, Or.inl (by omega)⟩
    · rw [if_neg h0]
      simp only [Option.bind_some]
      rw [if_neg h0]
      have h := szSS_l l (a ++ [x]) (m - (x.length : Int)) k (fun y hy => hb y (List.mem_cons_of_mem _ hy)) (by omega) (by rw [List.append_assoc, List.singleton_append]; exact hl) (by omega)
      rw [List.append_assoc, List.singleton_append] at h
      obtain ⟨r, hr, hd⟩ := h
      refine ⟨r, hr, ?_⟩
      rcases hd with hd | ⟨hd, hx2⟩
      · exact Or.inl hd
      · refine Or.inr ⟨hd, fun y hy => ?_⟩
        rcases List.mem_cons.1 hy with rfl | hy
        · omega
        · exact hx2 y hy
theorem szSS_any (l : List (List Int)) (m : Int) (k : Nat) (hm : 0 ≤ m ∧ m ≤ 1048576) (hn : l.length ≤ 140737488351232) (hl : ∀ x ∈ l, x.length ≤ 140737488351232) (hk : l.length < k) :
    ∃ r, laws_szIntSS.f k l m = some r ∧ (r < 0 ∨ (0 ≤ r ∧ l.length ≤ 1048576 ∧ ∀ x ∈ l, x.length ≤ 1048576)) := by
  unfold laws_szIntSS.f
  rw [w64 (by omega) (by omega)]
  by_cases h : m - (l.length : Int) < 0
  · rw [if_pos h]
    exact ⟨-1, rfl, Or.inl (by omega)⟩
  · rw [if_neg h]
    obtain ⟨r, hr, hd⟩ := szSS_l l [] (m - (l.length : Int)) k hl (by omega) hn hk
    refine ⟨r, hr, ?_⟩
    rcases hd with hd | ⟨hd, hx⟩
    · exact Or.inl hd
    · exact Or.inr ⟨hd, by omega, hx⟩
theorem toSS_l (B : Nat) (hB : B ≤ 35184372088832) : ∀ (l a m : List (List Int)) (k : Nat), (∀ x ∈ l, x.length ≤ B) → m.length = l.length → (a ++ l).length ≤ 140737488351232 → l.length + B + 1 < k →
    laws_toIntSS.l0 k (a ++ l) (a ++ m) a.length = some (a ++ l)
  | [], a, m, k, _, hm, _, hk => by
    obtain ⟨k, rfl⟩ : ∃ m, k = m + 1 := ⟨k - 1, by omega⟩
    obtain rfl := List.eq_nil_of_length_eq_zero hm
    simp only [laws_toIntSS.l0, List.append_nil]
    rw [if_neg (by omega)]
  | x :: l, a, [], k, _, hm, _, _ => by simp at hm
  | x :: l, a, y :: m, k, hb, hm, hl, hk => by
    obtain ⟨k, rfl⟩ : ∃ m, k = m + 1 := ⟨k - 1, by omega⟩
    have hx := hb x List.mem_cons_self
    have ha : a.length ≤ 140737488351232 := by rw [List.length_append] at hl; omega
    rw [List.length_cons] at hk
    simp only [laws_toIntSS.l0]
    rw [if_pos (len_mid a x l), if_pos (by omega), rdL_mid, toI x k (by omega) (by omega)]
    simp only [Option.bind_some]
    rw [if_pos (len_mid a y m), setL_mid, next_mid a x (by omega)]
    have h := toSS_l B hB l (a ++ [x]) m k (fun y hy => hb y (List.mem_cons_of_mem _ hy)) (by simpa using hm) (by rw [List.append_assoc, List.singleton_append]; exact hl) (by omega)
    rw [List.append_assoc a [x] l, List.singleton_append] at h
    exact h
theorem toSS (l : List (List Int)) (B k : Nat) (hn : l.length ≤ 11728124029610) (hB : B ≤ 35184372088832) (hb : ∀ x ∈ l, x.length ≤ B) (hk : l.length + B + 1 < k) : laws_toIntSS.f k l = some l := by
  unfold laws_toIntSS.f
  rw [if_pos (by omega), if_pos (by rw [Int.toNat_natCast]; exact hn)]
  have h := toSS_l B hB l [] (List.replicate ((l.length : Int)).toNat []) k hb (by simp) (by simp only [List.nil_append]; omega) hk
  exact h
theorem eqSS_l (B : Nat) (hB : B ≤ 4611686018427387904) : ∀ (l a : List (List Int)) (k : Nat), (∀ x ∈ l, x.length ≤ B) → (a ++ l).length ≤ 140737488351232 → l.length + B + 1 < k →
    laws_eqIntSS.l0 k (a ++ l) (a ++ l) a.length = some true
  | [], a, k, _, _, hk => by
    obtain ⟨k, rfl⟩ : ∃ m, k = m + 1 := ⟨k - 1, by omega⟩
    simp only [laws_eqIntSS.l0, List.append_nil]
    rw [if_neg (by omega)]
  | x :: l, a, k, hb, hl, hk => by
    obtain ⟨k, rfl⟩ : ∃ m, k = m + 1 := ⟨k - 1, by omega⟩
    have hx := hb x List.mem_cons_self
    have ha : a.length ≤ 140737488351232 := by rw [List.length_append] at hl; omega
    rw [List.length_cons] at hk
    simp only [laws_eqIntSS.l0]
    rw [if_pos (len_mid a x l), if_pos (by omega), if_pos (len_mid a x l), rdL_mid, eqI x x k (by omega) (by omega), next_mid a x (by omega)]
    simp only [Option.bind_some, decide_true, if_true]
    have h := eqSS_l B hB l (a ++ [x]) k (fun y hy => hb y (List.mem_cons_of_mem _ hy)) (by rw [List.append_assoc, List.singleton_append]; exact hl) (by omega)
    rw [List.append_assoc, List.singleton_append] at h
    exact h
theorem eqSS_refl (l : List (List Int)) (B k : Nat) (hn : l.length ≤ 140737488351232) (hB : B ≤ 4611686018427387904) (hb : ∀ x ∈ l, x.length ≤ B) (hk : l.length + B + 1 < k) : laws_eqIntSS.f k l l = some true := by
  unfold laws_eqIntSS.f
  rw [if_pos rfl]
  exact eqSS_l B hB l [] k hb hn hk
def szSS : List (List Int) → Nat
  | [] => 0
  | x :: l => x.length + szSS l
theorem szSS_bd (B : Nat) : ∀ (l : List (List Int)), (∀ x ∈ l, x.length ≤ B) → szSS l ≤ l.length * B
  | [], _ => Nat.zero_le _
  | x :: l, h => by
    have h1 := szSS_bd B l (fun y hy => h y (List.mem_cons_of_mem _ hy))
    have h2 := h x List.mem_cons_self
    simp only [szSS, List.length_cons, Nat.add_mul, Nat.one_mul]
    omega
def mkSS (m : Int) : List (List Int) → List (List Int)
  | [] => []
  | x :: l => upFrom m x.length :: mkSS (m + (x.length : Int)) l
theorem markSS_l (B : Nat) (hB : B ≤ 10000000) : ∀ (l a : List (List Int)) (m : Int) (k : Nat), (∀ x ∈ l, x.length ≤ B) → 0 ≤ m → m + szSS l ≤ 50000000000000 → a.length + l.length ≤ 10000000 → l.length + B + 50 < k → laws_markIntSS.l0 k (a ++ l) m a.length = some (m + szSS l, a ++ mkSS m l)
  | [], a, m, k, _, _, _, _, hk => by
    obtain ⟨k, rfl⟩ : ∃ m, k = m + 1 := ⟨k - 1, by omega⟩
    simp only [laws_markIntSS.l0, List.append_nil]
    rw [if_neg (by omega)]
    simp [mkSS, szSS]
  | x :: l, a, m, k, hb, h0, hs, hl, hk => by
    obtain ⟨k, rfl⟩ : ∃ m, k = m + 1 := ⟨k - 1, by omega⟩
    have hx := hb x List.mem_cons_self
    simp only [szSS] at hs
    rw [List.length_cons] at hl hk
    simp only [laws_markIntSS.l0]
    rw [if_pos (len_mid a x l), if_pos (by omega), rdL_mid, markI x m k (by omega) (by omega) (by omega)]
    simp only [Option.bind_some]
    rw [setL_mid, next_mid a (upFrom m x.length) (by omega)]
    have h := markSS_l B hB l (a ++ [upFrom m x.length]) (m + (x.length : Int)) k (fun y hy => hb y (List.mem_cons_of_mem _ hy)) (by omega) (by omega) (by rw [List.length_append, List.length_singleton]; omega) (by omega)
    rw [h]
    simp only [mkSS, szSS, List.append_assoc, List.singleton_append]
    congr 2
    omega
theorem markSS (B : Nat) (hB : B ≤ 10000000) (l : List (List Int)) (m : Int) (k : Nat) (hb : ∀ x ∈ l, x.length ≤ B) (h0 : 0 ≤ m) (hs : m + szSS l ≤ 50000000000000) (hl : l.length ≤ 10000000) (hk : l.length + B + 50 < k) : laws_markIntSS.f k l m = some (m + szSS l, mkSS m l) := by
  have h := markSS_l B hB l [] m k hb h0 hs (by simpa using hl) hk
  unfold laws_markIntSS.f
  simpa using h

-- rdt(46)
theorem rd_T46_at (l : List S46) (i : Nat) (h : i < l.length) : rd_T46 l i = l[i] := by
  simp [rd_T46, List.getD_eq_getElem?_getD, List.getElem?_eq_getElem h]

-- goodb(46)
theorem in_same (a b c : Int) : impl_in.f a b c = spec_l1In.f a b c := rfl
theorem bridge_same (a b : Int) (c : Bool) : impl_isBridge.f a b c = spec_l4Bridge.f a b c := rfl
theorem goodb_l : ∀ (k : Nat) (x0 x5 : List S46) (x6 x7 : Int), impl_GoodBridges.l0 k x0 x5 x6 x7 = spec_GoodBridges.l0 k x0 x5 x6 x7
  | 0, _, _, _, _ => rfl
  | k + 1, x0, x5, x6, x7 => by simp only [impl_GoodBridges.l0, spec_GoodBridges.l0, bridge_same, in_same, goodb_l k]
theorem goodb_same (k : Nat) (l : List S46) : impl_GoodBridges.f k l = spec_GoodBridges.f k l := goodb_l k l l _ _
def okB (x : S46) : Bool := decide ((1 ≤ x.f0 ∧ x.f0 ≤ 1000) ∧ 0 ≤ x.f1 ∧ x.f1 ≤ 127)
theorem okB_eq (x : S46) : spec_l4Bridge.f x.f0 x.f1 x.f2 = some (okB x) := by
  unfold spec_l4Bridge.f spec_l1In.f okB
  by_cases h0 : 1 ≤ x.f0
  · by_cases h1 : x.f0 ≤ 1000
    · by_cases h2 : 0 ≤ x.f1
      · simp [h0, h1, h2]
      · simp [h0, h1, h2]
    · simp [h0, h1]
  · simp [h0]
/-- Bridges with rising Ids behind one. -/
def upB (p : Int) : List S46 → Bool
  | [] => true
  | x :: r => okB x && (decide (p < x.f0) && upB x.f0 r)
def goodB (l : List S46) : Bool := upB 0 l && decide (1 ≤ l.length ∧ l.length ≤ 10)
def before (l : List S46) : Nat → Int
  | 0 => 0
  | i + 1 => (rd_T46 l i).f0
theorem drop_B (l : List S46) (i : Nat) (h : i < l.length) : l.drop i = rd_T46 l i :: l.drop (i + 1) := by
  rw [rd_T46_at l i h]
  exact List.drop_eq_getElem_cons h
theorem wi (i : Nat) (h : i ≤ 4611686018427387904) : wrap64 ((i : Int) + 1) = ((i + 1 : Nat) : Int) := by
  rw [w64 (by omega) (by omega)]
  omega
theorem spec_goodB_l (l : List S46) (hn : l.length ≤ 4611686018427387904) (d : Nat) : ∀ (k i : Nat), i + d = l.length → d < k →
    spec_GoodBridges.l0 k l l l.length i = some (upB (before l i) (l.drop i) && decide (1 ≤ l.length ∧ l.length ≤ 10)) := by
  induction d with
  | zero =>
    intro k i h hk
    obtain ⟨k, rfl⟩ : ∃ m, k = m + 1 := ⟨k - 1, by omega⟩
    simp only [spec_GoodBridges.l0, spec_l1In.f]
    rw [if_neg (by omega), List.drop_of_length_le (by omega)]
    simp only [upB, Bool.true_and]
    by_cases h1 : 1 ≤ l.length
    · rw [if_pos (show (l.length : Int) ≥ 1 by omega)]
      by_cases h2 : l.length ≤ 10
      · rw [decide_eq_true (show (l.length : Int) ≤ 10 by omega), decide_eq_true ⟨h1, h2⟩]
        rfl
      · rw [decide_eq_false (show ¬ (l.length : Int) ≤ 10 by omega), decide_eq_false (fun e => h2 e.2)]
        rfl
    · rw [if_neg (show ¬ (l.length : Int) ≥ 1 by omega), decide_eq_false (fun e => h1 e.1)]
      rfl
  | succ d ih =>
    intro k i h hk
    obtain ⟨k, rfl⟩ : ∃ m, k = m + 1 := ⟨k - 1, by omega⟩
    have ih := ih k (i + 1) (by omega) (by omega)
    rw [drop_B l i (by omega)]
    simp only [spec_GoodBridges.l0]
    rw [if_pos (by omega), if_pos (by omega), if_pos (by omega), okB_eq, wi _ (by omega)]
    simp only [Option.bind_some, upB]
    cases ho : okB (rd_T46 l i)
    · simp
    · simp only [if_true, Bool.true_and]
      cases i with
      | zero =>
        rw [if_neg (by omega)]
        have hp : (0 : Int) < (rd_T46 l 0).f0 := by
          unfold okB at ho
          simp at ho
          omega
        rw [ih, show before l 0 = 0 from rfl]
        simp only [before, Int.natCast_zero, show ((0 : Nat) : Int) = 0 from rfl]
        rw [decide_eq_true hp]
        simp
      | succ i =>
        rw [if_pos (by omega), w64 (x := ((i + 1 : Nat) : Int) - 1) (by omega) (by omega), show ((i + 1 : Nat) : Int) - 1 = (i : Int) by omega, if_pos (by omega), if_pos (by omega)]
        have hb : before l (i + 1) = (rd_T46 l i).f0 := rfl
        by_cases hlt : before l (i + 1) < (rd_T46 l ((i + 1 : Nat) : Int)).f0
        · rw [if_neg (by omega), ih, decide_eq_true hlt]
          simp only [Bool.true_and]
          rfl
        · rw [if_pos (by omega), decide_eq_false hlt]
          simp
theorem spec_goodB (l : List S46) (k : Nat) (hn : l.length ≤ 4611686018427387904) (hk : l.length < k) : spec_GoodBridges.f k l = some (goodB l) := by
  have h := spec_goodB_l l hn l.length k 0 (by omega) hk
  rw [List.drop_zero] at h
  exact h
theorem impl_goodB (l : List S46) (k : Nat) (hn : l.length ≤ 4611686018427387904) (hk : l.length < k) : impl_GoodBridges.f k l = some (goodB l) := by
  rw [goodb_same]
  exact spec_goodB l k hn hk
theorem upB_ok : ∀ (l : List S46) (p : Int), upB p l = true → ∀ x ∈ l, okB x = true ∧ p < x.f0
  | y :: l, p, h, x, hx => by
    simp only [upB, Bool.and_eq_true, decide_eq_true_eq] at h
    rcases List.mem_cons.1 hx with rfl | hx
    · exact ⟨h.1, h.2.1⟩
    · have := upB_ok l _ h.2.2 x hx
      exact ⟨this.1, by omega⟩
theorem goodB_ok (l : List S46) (h : goodB l = true) : (∀ x ∈ l, (1 ≤ x.f0 ∧ x.f0 ≤ 1000) ∧ 0 ≤ x.f1 ∧ x.f1 ≤ 127) ∧ 1 ≤ l.length ∧ l.length ≤ 10 := by
  unfold goodB at h
  simp only [Bool.and_eq_true, decide_eq_true_eq] at h
  refine ⟨fun x hx => ?_, h.2⟩
  have := (upB_ok l 0 h.1 x hx).1
  unfold okB at this
  simpa using this

-- dropi
theorem drop_i (l : List Int) (i : Nat) (h : i < l.length) : l.drop i = rd l i :: l.drop (i + 1) := by
  unfold rd
  rw [Int.toNat_natCast, List.getD_eq_getElem?_getD, List.getElem?_eq_getElem h]
  exact List.drop_eq_getElem_cons h
theorem rd_mem (l : List Int) (i : Nat) (h : i < l.length) : rd l i ∈ l := by
  unfold rd
  rw [Int.toNat_natCast, List.getD_eq_getElem?_getD, List.getElem?_eq_getElem h]
  exact List.getElem_mem h

-- leader(46)
def btB (a b : S46) : Bool := decide (a.f1 > b.f1 ∨ a.f1 = b.f1 ∧ a.f0 > b.f0)
theorem spec_beatsB (a b : S46) : spec_l4Beats.f a.f0 a.f1 a.f2 b.f0 b.f1 b.f2 = some (btB a b) := by
  unfold spec_l4Beats.f btB
  by_cases h : a.f1 > b.f1
  · simp [h]
  · by_cases h2 : a.f1 = b.f1
    · simp [h2]
    · simp [h, h2]
theorem impl_beatsB (a b : S46) : impl_beats.f a.f0 a.f1 a.f2 b.f0 b.f1 b.f2 = some (btB a b) := spec_beatsB a b
/-- The leader of some, behind one that leads till here. -/
def lead : Option S46 → List S46 → Option S46
  | b, [] => b
  | none, x :: r => lead (if x.f2 = true then some x else none) r
  | some b, x :: r => lead (if x.f2 = true ∧ btB x b = true then some x else some b) r
def leadId (o : Option S46) : Int := match o with | none => 0 | some x => x.f0
theorem impl_leader_l (l : List S46) (hn : l.length ≤ 4611686018427387904) (hok : ∀ x ∈ l, 1 ≤ x.f0) (d : Nat) : ∀ (k i : Nat) (b : S46) (o : Option S46), (o = none ∧ b.f0 = 0 ∨ o = some b ∧ 1 ≤ b.f0) → i + d = l.length → d < k →
    impl_leader.l0 k l l.length i b.f0 b.f1 b.f2 = some (leadId (lead o (l.drop i))) := by
  induction d with
  | zero =>
    intro k i b o ho h hk
    obtain ⟨k, rfl⟩ : ∃ m, k = m + 1 := ⟨k - 1, by omega⟩
    simp only [impl_leader.l0]
    rw [if_neg (by omega), List.drop_of_length_le (by omega)]
    rcases ho with ⟨rfl, hb⟩ | ⟨rfl, hb⟩
    · simp [lead, leadId, hb]
    · simp [lead, leadId]
  | succ d ih =>
    intro k i b o ho h hk
    obtain ⟨k, rfl⟩ : ∃ m, k = m + 1 := ⟨k - 1, by omega⟩
    have hx : 1 ≤ (rd_T46 l i).f0 := by
      rw [rd_T46_at l i (by omega)]
      exact hok _ (List.getElem_mem _)
    rw [drop_B l i (by omega)]
    simp only [impl_leader.l0]
    rw [if_pos (by omega), if_pos (by omega), if_pos (by omega), wi _ (by omega), impl_beatsB]
    have ih1 := ih k (i + 1) (rd_T46 l i) (some (rd_T46 l i)) (Or.inr ⟨rfl, hx⟩) (by omega) (by omega)
    have ih2 := ih k (i + 1) b o ho (by omega) (by omega)
    rcases ho with ⟨rfl, hb⟩ | ⟨rfl, hb⟩
    · simp only [lead]
      cases hu : (rd_T46 l i).f2
      · rw [if_neg (by decide), if_neg (by decide)]
        exact ih2
      · rw [if_pos rfl, if_pos hb, if_pos rfl]
        rw [hu] at ih1
        exact ih1
    · simp only [lead]
      cases hu : (rd_T46 l i).f2
      · rw [if_neg (by decide), if_neg (by simp)]
        exact ih2
      · rw [if_pos rfl, if_neg (by omega)]
        simp only [Option.bind_some]
        cases hbt : btB (rd_T46 l i) b
        · rw [if_neg (by decide), if_neg (by simp)]
          exact ih2
        · rw [if_pos rfl, if_pos (by simp)]
          rw [hu] at ih1
          exact ih1
theorem impl_leaderB (l : List S46) (k : Nat) (hn : l.length ≤ 4611686018427387904) (hok : ∀ x ∈ l, 1 ≤ x.f0) (hk : l.length < k) : impl_leader.f k l = some (leadId (lead none l)) := by
  have h := impl_leader_l l hn hok l.length k 0 ⟨0, 0, false⟩ none (Or.inl ⟨rfl, rfl⟩) (by omega) hk
  rw [List.drop_zero] at h
  exact h
/-- The leader of those at some places. -/
theorem spec_leader_l (l : List S46) (at_ : List Int) (hn : at_.length ≤ 4611686018427387904) (hin : ∀ x ∈ at_, 0 ≤ x ∧ x < l.length) (d : Nat) : ∀ (k i : Nat) (b : Int) (o : Option S46), (o = none ∧ b < 0 ∨ (0 ≤ b ∧ b < l.length) ∧ o = some (rd_T46 l b)) → i + d = at_.length → d < k →
    spec_l4Leader.l0 k l b at_ at_.length i = some (leadId (lead o ((at_.drop i).map fun x => rd_T46 l x))) := by
  induction d with
  | zero =>
    intro k i b o ho h hk
    obtain ⟨k, rfl⟩ : ∃ m, k = m + 1 := ⟨k - 1, by omega⟩
    simp only [spec_l4Leader.l0]
    rw [if_neg (by omega), List.drop_of_length_le (by omega)]
    rcases ho with ⟨rfl, hb⟩ | ⟨hb, rfl⟩
    · rw [if_pos hb]
      rfl
    · rw [if_neg (by omega), if_pos hb.1, if_pos hb.2]
      rfl
  | succ d ih =>
    intro k i b o ho h hk
    obtain ⟨k, rfl⟩ : ∃ m, k = m + 1 := ⟨k - 1, by omega⟩
    have hx := hin _ (rd_mem at_ i (by omega))
    rw [drop_i at_ i (by omega), List.map_cons]
    simp only [spec_l4Leader.l0]
    rw [if_pos (by omega), if_pos (by omega), if_pos (by omega), if_pos hx.1, if_pos hx.2, wi _ (by omega)]
    have ih1 := ih k (i + 1) (rd at_ i) (some (rd_T46 l (rd at_ i))) (Or.inr ⟨hx, rfl⟩) (by omega) (by omega)
    have ih2 := ih k (i + 1) b o ho (by omega) (by omega)
    rcases ho with ⟨rfl, hb⟩ | ⟨hb, rfl⟩
    · simp only [lead]
      cases hu : (rd_T46 l (rd at_ i)).f2
      · rw [if_neg (by decide), if_neg (by decide)]
        exact ih2
      · rw [if_pos rfl, if_pos hb, if_pos rfl]
        exact ih1
    · simp only [lead]
      cases hu : (rd_T46 l (rd at_ i)).f2
      · rw [if_neg (by decide), if_neg (by simp)]
        exact ih2
      · rw [if_pos rfl, if_neg (by omega), if_pos hb.1, if_pos hb.2]
        have e := spec_beatsB (rd_T46 l (rd at_ i)) (rd_T46 l b)
        rw [hu] at e
        rw [e]
        simp only [Option.bind_some]
        cases hbt : btB (rd_T46 l (rd at_ i)) (rd_T46 l b)
        · rw [if_neg (by decide), if_neg (by simp)]
          exact ih2
        · rw [if_pos rfl, if_pos (by simp)]
          exact ih1
theorem spec_leaderB (l : List S46) (at_ : List Int) (k : Nat) (hn : at_.length ≤ 4611686018427387904) (hin : ∀ x ∈ at_, 0 ≤ x ∧ x < l.length) (hk : at_.length < k) :
    spec_l4Leader.f k l at_ = some (leadId (lead none (at_.map fun x => rd_T46 l x))) := by
  have h := spec_leader_l l at_ hn hin at_.length k 0 (-1) none (Or.inl ⟨rfl, by omega⟩) (by omega) hk
  rw [List.drop_zero] at h
  exact h

-- inrange(impl_in)
theorem impl_in_eq (a lo hi : Int) : impl_in.f a lo hi = some (decide (lo ≤ a ∧ a ≤ hi)) := by
  unfold impl_in.f
  by_cases h : lo ≤ a
  · rw [if_pos (show a ≥ lo from h)]
    simp [h]
  · rw [if_neg (show ¬ a ≥ lo from h)]
    simp [h]

-- allin(impl_allIn;impl_in)
theorem impl_allIn_l (lo hi : Int) (l : List Int) (hn : l.length ≤ 4611686018427387904) (d : Nat) : ∀ (k i : Nat), i + d = l.length → d < k →
    impl_allIn.l0 k lo hi l l.length i = some ((l.drop i).all fun x => decide (lo ≤ x ∧ x ≤ hi)) := by
  induction d with
  | zero =>
    intro k i h hk
    obtain ⟨k, rfl⟩ : ∃ m, k = m + 1 := ⟨k - 1, by omega⟩
    simp only [impl_allIn.l0]
    rw [if_neg (by omega), List.drop_of_length_le (by omega)]
    rfl
  | succ d ih =>
    intro k i h hk
    obtain ⟨k, rfl⟩ : ∃ m, k = m + 1 := ⟨k - 1, by omega⟩
    have h1 := ih k (i + 1) (by omega) (by omega)
    have ea : l.drop i = rd l i :: l.drop (i + 1) := by
      unfold rd
      rw [Int.toNat_natCast, List.getD_eq_getElem?_getD, List.getElem?_eq_getElem (by omega)]
      exact List.drop_eq_getElem_cons (by omega)
    simp only [impl_allIn.l0]
    rw [if_pos (by omega), if_pos (by omega), if_pos (by omega), impl_in_eq, ea, List.all_cons]
    simp only [Option.bind_some]
    by_cases e : lo ≤ rd l i ∧ rd l i ≤ hi
    · rw [decide_eq_true e]
      simp only [if_true, Bool.true_and]
      rw [w64 (by omega) (by omega), show ((i : Int) + 1) = ((i + 1 : Nat) : Int) by omega]
      exact h1
    · rw [decide_eq_false e]
      simp
theorem impl_allIn_eq (l : List Int) (lo hi : Int) (k : Nat) (hn : l.length ≤ 4611686018427387904) (hk : l.length < k) : impl_allIn.f k l lo hi = some (l.all fun x => decide (lo ≤ x ∧ x ≤ hi)) := by
  have h := impl_allIn_l lo hi l hn l.length k 0 (by omega) hk
  unfold impl_allIn.f
  simpa using h

-- inrange(spec_l1In)
theorem spec_l1In_eq (a lo hi : Int) : spec_l1In.f a lo hi = some (decide (lo ≤ a ∧ a ≤ hi)) := by
  unfold spec_l1In.f
  by_cases h : lo ≤ a
  · rw [if_pos (show a ≥ lo from h)]
    simp [h]
  · rw [if_neg (show ¬ a ≥ lo from h)]
    simp [h]

-- eqb
theorem eqB (a b : Int) (c : Bool) : laws_eqBridge.f a b c a b c = some true := by
  unfold laws_eqBridge.f
  simp

-- rdt(44)
theorem rd_T44_at (l : List S44) (i : Nat) (h : i < l.length) : rd_T44 l i = l[i] := by
  simp [rd_T44, List.getD_eq_getElem?_getD, List.getElem?_eq_getElem h]

-- tos(44;46;laws_toBridgeS;laws_toBridge;⟨x.f0, x.f1, x.f2⟩;11728124029610)
def cv44 (x : S44) : S46 := ⟨x.f0, x.f1, x.f2⟩
theorem laws_toBridgeS_l (l : List S44) (hn : l.length ≤ 4611686018427387904) (d : Nat) : ∀ (k i : Nat) (m : List S46), i + d = l.length → m.length = l.length → m.take i = (l.map cv44).take i → d < k →
    laws_toBridgeS.l0 k l m i = some (l.map cv44) := by
  induction d with
  | zero =>
    intro k i m h hm ht hk
    obtain ⟨k, rfl⟩ : ∃ m, k = m + 1 := ⟨k - 1, by omega⟩
    simp only [laws_toBridgeS.l0]
    rw [if_neg (by omega)]
    rw [List.take_of_length_le (by omega), List.take_of_length_le (by rw [List.length_map]; omega)] at ht
    rw [ht]
  | succ d ih =>
    intro k i m h hm ht hk
    obtain ⟨k, rfl⟩ : ∃ m, k = m + 1 := ⟨k - 1, by omega⟩
    simp only [laws_toBridgeS.l0, laws_toBridge.f, Option.bind_some]
    rw [if_pos (by omega), if_pos (by omega), if_pos (by omega), w64 (by omega) (by omega), show ((i : Int) + 1) = ((i + 1 : Nat) : Int) by omega]
    refine ih k (i + 1) _ (by omega) (by rw [List.length_set]; exact hm) ?_ (by omega)
    rw [Int.toNat_natCast]
    exact set_take _ _ i (by rw [List.length_map]; omega) (by rw [List.length_map]; exact hm) ht _ (by rw [List.getElem?_map, List.getElem?_eq_getElem (by omega), rd_T44_at l i (by omega)]; rfl)
theorem laws_toBridgeS_eq (l : List S44) (k : Nat) (hn : l.length ≤ 11728124029610) (hk : l.length < k) : laws_toBridgeS.f k l = some (l.map cv44) := by
  unfold laws_toBridgeS.f
  rw [if_pos (by omega), if_pos (by omega)]
  exact laws_toBridgeS_l l (by omega) l.length k 0 _ (by omega) (by simp) (by simp) hk

-- eqs(46;laws_eqBridgeS;laws_eqBridge)
theorem laws_eqBridgeS_l (l : List S46) (hn : l.length ≤ 4611686018427387904) (d : Nat) : ∀ (k i : Nat), i + d = l.length → d < k → laws_eqBridgeS.l0 k l l i = some true := by
  induction d with
  | zero =>
    intro k i h hk
    obtain ⟨k, rfl⟩ : ∃ m, k = m + 1 := ⟨k - 1, by omega⟩
    simp only [laws_eqBridgeS.l0]
    rw [if_neg (by omega)]
  | succ d ih =>
    intro k i h hk
    obtain ⟨k, rfl⟩ : ∃ m, k = m + 1 := ⟨k - 1, by omega⟩
    have h1 := ih k (i + 1) (by omega) (by omega)
    simp only [laws_eqBridgeS.l0]
    rw [if_pos (by omega), if_pos (by omega), if_pos (by omega), w64 (by omega) (by omega), show ((i : Int) + 1) = ((i + 1 : Nat) : Int) by omega, h1]
    unfold laws_eqBridge.f
    simp
theorem laws_eqBridgeS_refl (l : List S46) (k : Nat) (hn : l.length ≤ 4611686018427387904) (hk : l.length < k) : laws_eqBridgeS.f k l l = some true := by
  unfold laws_eqBridgeS.f
  rw [if_pos rfl]
  exact laws_eqBridgeS_l l hn l.length k 0 (by omega) hk

-- marksonly(46;laws_markBridgeS;⟨m, m + 1, Int.tmod (m + 1 + 1) 3 == 0⟩;3;m + 3 * (i : Int) + 1 + 1 + 1)
def el46 (m : Int) : S46 := ⟨m, m + 1, Int.tmod (m + 1 + 1) 3 == 0⟩
/-- What a marked list of so many holds. -/
def mk46 (m : Int) (n : Nat) : List S46 := (List.range n).map fun i : Nat => el46 (m + 3 * (i : Int))
theorem mk46_len (m : Int) (n : Nat) : (mk46 m n).length = n := by simp [mk46]
theorem rd_T46_set (l : List S46) (i : Nat) (v : S46) (h : i < l.length) : rd_T46 (l.set (i : Int).toNat v) (i : Int) = v := by
  simp [rd_T46, List.getD_eq_getElem?_getD, h]
theorem set_set46 (l : List S46) (i : Int) (a b : S46) : (l.set i.toNat a).set i.toNat b = l.set i.toNat b := by rw [List.set_set]
theorem laws_markBridgeS_l (m : Int) (n : Nat) (hm : 0 ≤ m ∧ m ≤ 1152921504606846976) (hn : n ≤ 35184372088832) (d : Nat) : ∀ (k i : Nat) (l : List S46), i + d = n → l.length = n → d < k → l.take i = (mk46 m n).take i →
    laws_markBridgeS.l0 k l (m + 3 * (i : Int)) i = some (m + 3 * (n : Int), mk46 m n) := by
  have hw : ∀ x : Int, 0 ≤ x → x ≤ 2305843009213693952 → wrap64 (x + 1) = x + 1 := fun x h0 h1 => w64 (by omega) (by omega)
  induction d with
  | zero =>
    intro k i l h hl hk ht
    obtain ⟨k, rfl⟩ : ∃ m, k = m + 1 := ⟨k - 1, by omega⟩
    simp only [laws_markBridgeS.l0]
    rw [if_neg (by omega)]
    rw [List.take_of_length_le (by omega), List.take_of_length_le (by rw [mk46_len]; omega)] at ht
    rw [ht, show i = n by omega]
  | succ d ih =>
    intro k i l h hl hk ht
    obtain ⟨k, rfl⟩ : ∃ m, k = m + 1 := ⟨k - 1, by omega⟩
    have hi : i < l.length := by omega
    simp only [laws_markBridgeS.l0]
    rw [if_pos (by omega), if_pos (by omega)]
    simp only [Option.bind_some, rd_T46_set l i _ hi, set_set46]
    simp (disch := omega) only [hw]
    have h1 := ih k (i + 1) (l.set (i : Int).toNat (el46 (m + 3 * (i : Int)))) (by omega) (by rw [List.length_set]; exact hl) (by omega) (by
      rw [Int.toNat_natCast]
      exact set_take _ _ i (by rw [mk46_len]; omega) (by rw [mk46_len]; exact hl) ht _ (by simp [mk46, show i < n by omega]))
    rw [show m + 3 * (i : Int) + 1 + 1 + 1 = m + 3 * ((i + 1 : Nat) : Int) by omega, show (i : Int) + 1 = ((i + 1 : Nat) : Int) by omega]
    exact h1
theorem laws_markBridgeS_eq (l : List S46) (m : Int) (k : Nat) (hm : 0 ≤ m ∧ m ≤ 1152921504606846976) (hn : l.length ≤ 35184372088832) (hk : l.length < k) : laws_markBridgeS.f k l m = some (m + 3 * (l.length : Int), mk46 m l.length) := by
  have h := laws_markBridgeS_l m l.length hm hn l.length k 0 l (by omega) rfl hk (by simp)
  simp only [Int.natCast_zero, show ((0 : Nat) : Int) = 0 from rfl, Int.mul_zero, Int.add_zero] at h
  exact h

/-! Who leads does not hang on the order of those seen. -/
theorem bt_tot (a b : S46) (h1 : btB a b = false) (h2 : btB b a = false) : a.f0 = b.f0 := by
  simp only [btB, decide_eq_false_iff_not] at h1 h2
  omega
theorem bt_trans (a b c : S46) (h1 : btB a b = false) (h2 : btB b c = false) : btB a c = false := by
  simp only [btB, decide_eq_false_iff_not] at h1 h2 ⊢
  omega
theorem bt_irr (a : S46) : btB a a = false := by
  simp only [btB, decide_eq_false_iff_not]
  omega
theorem bt_asym (a b : S46) (h : btB a b = true) : btB b a = false := by
  simp only [btB, decide_eq_true_eq, decide_eq_false_iff_not] at h ⊢
  omega
def Leads (o : Option S46) (l : List S46) : Option S46 → Prop
  | none => o = none ∧ ∀ y ∈ l, y.f2 = false
  | some x => (o = some x ∨ (x ∈ l ∧ x.f2 = true)) ∧ (∀ y ∈ l, y.f2 = true → btB y x = false) ∧ ∀ b, o = some b → btB b x = false
theorem lead_is : ∀ (l : List S46) (o : Option S46), Leads o l (lead o l)
  | [], o => by
    cases o with
    | none => exact ⟨rfl, fun y hy => absurd hy (List.not_mem_nil)⟩
    | some b => exact ⟨.inl rfl, fun y hy => absurd hy (List.not_mem_nil), fun c hc => by cases hc; exact bt_irr b⟩
  | x :: l, o => by
    cases o with
    | none =>
      simp only [lead]
      cases hx : x.f2
      · rw [if_neg (by decide)]
        have h := lead_is l none
        cases e : lead none l with
        | none =>
          rw [e] at h
          refine ⟨rfl, fun y hy => ?_⟩
          rcases List.mem_cons.1 hy with rfl | hy
          · exact hx
          · exact h.2 y hy
        | some z =>
          rw [e] at h
          refine ⟨.inr ?_, fun y hy hu => ?_, fun b hb => by cases hb⟩
          · rcases h.1 with h1 | h1
            · cases h1
            · exact ⟨List.mem_cons_of_mem _ h1.1, h1.2⟩
          · rcases List.mem_cons.1 hy with rfl | hy
            · rw [hx] at hu; cases hu
            · exact h.2.1 y hy hu
      · rw [if_pos rfl]
        have h := lead_is l (some x)
        cases e : lead (some x) l with
        | none => rw [e] at h; exact absurd h.1 (by simp)
        | some z =>
          rw [e] at h
          refine ⟨.inr ?_, fun y hy hu => ?_, fun b hb => by cases hb⟩
          · rcases h.1 with h1 | h1
            · cases h1
              exact ⟨List.mem_cons_self, hx⟩
            · exact ⟨List.mem_cons_of_mem _ h1.1, h1.2⟩
          · rcases List.mem_cons.1 hy with rfl | hy
            · exact h.2.2 _ rfl
            · exact h.2.1 y hy hu
    | some b =>
      simp only [lead]
      by_cases hc : x.f2 = true ∧ btB x b = true
      · rw [if_pos hc]
        have h := lead_is l (some x)
        cases e : lead (some x) l with
        | none => rw [e] at h; exact absurd h.1 (by simp)
        | some z =>
          rw [e] at h
          refine ⟨.inr ?_, fun y hy hu => ?_, fun c hcb => ?_⟩
          · rcases h.1 with h1 | h1
            · cases h1
              exact ⟨List.mem_cons_self, hc.1⟩
            · exact ⟨List.mem_cons_of_mem _ h1.1, h1.2⟩
          · rcases List.mem_cons.1 hy with rfl | hy
            · exact h.2.2 _ rfl
            · exact h.2.1 y hy hu
          · cases hcb
            exact bt_trans _ x _ (bt_asym x b hc.2) (h.2.2 x rfl)
      · rw [if_neg hc]
        have h := lead_is l (some b)
        cases e : lead (some b) l with
        | none => rw [e] at h; exact absurd h.1 (by simp)
        | some z =>
          rw [e] at h
          refine ⟨?_, fun y hy hu => ?_, h.2.2⟩
          · rcases h.1 with h1 | h1
            · exact .inl h1
            · exact .inr ⟨List.mem_cons_of_mem _ h1.1, h1.2⟩
          · rcases List.mem_cons.1 hy with rfl | hy
            · have hn : btB y b = false := by
                cases hb : btB y b
                · rfl
                · exact absurd ⟨hu, hb⟩ hc
              exact bt_trans _ b _ hn (h.2.2 b rfl)
            · exact h.2.1 y hy hu
theorem lead_same (l m : List S46) (h : ∀ x, x ∈ l ↔ x ∈ m) : leadId (lead none l) = leadId (lead none m) := by
  have h1 := lead_is l none
  have h2 := lead_is m none
  cases e1 : lead none l with
  | none =>
    rw [e1] at h1
    cases e2 : lead none m with
    | none => rfl
    | some y =>
      rw [e2] at h2
      rcases h2.1 with h3 | ⟨h3, h4⟩
      · cases h3
      · have := h1.2 y ((h y).2 h3)
        rw [h4] at this
        cases this
  | some x =>
    rw [e1] at h1
    cases e2 : lead none m with
    | none =>
      rw [e2] at h2
      rcases h1.1 with h3 | ⟨h3, h4⟩
      · cases h3
      · have := h2.2 x ((h x).1 h3)
        rw [h4] at this
        cases this
    | some y =>
      rw [e2] at h2
      rcases h1.1 with h3 | ⟨h3, h4⟩
      · cases h3
      · rcases h2.1 with h5 | ⟨h5, h6⟩
        · cases h5
        · exact bt_tot x y (h2.2.1 x ((h x).1 h3) h4) (h1.2.1 y ((h y).2 h5) h6)
/-! Rising lists. -/
theorem len1 {α : Type} (a : List α) (x : α) : (a ++ [x]).length = a.length + 1 := by simp
def adj (p : Int) : List Int → Bool
  | [] => true
  | x :: l => decide (p < x) && adj x l
def chk (lo hi p : Int) : List Int → Bool
  | [] => true
  | x :: l => decide (lo ≤ x ∧ x ≤ hi) && (decide (p < x) && chk lo hi x l)
theorem chk_eq (lo hi : Int) : ∀ (l : List Int) (p : Int), chk lo hi p l = (adj p l && l.all fun x => decide (lo ≤ x ∧ x ≤ hi))
  | [], _ => rfl
  | x :: l, p => by
    simp only [chk, adj, List.all_cons, chk_eq lo hi l x]
    cases decide (lo ≤ x ∧ x ≤ hi) <;> cases decide (p < x) <;> simp
theorem rd_midI (a : List Int) (x : Int) (b : List Int) : rd (a ++ x :: b) (a.length : Int) = x := by
  simp [rd]
theorem specR_l (lo hi : Int) : ∀ (l a : List Int) (p : Int) (k : Nat), (a ++ p :: l).length ≤ 1000000000 → l.length < k →
    spec_l1Rising.l0 k (a ++ p :: l) lo hi (a ++ p :: l) (a ++ p :: l).length ((a.length : Int) + 1) = some (chk lo hi p l)
  | [], a, p, k, hl, hk => by
    obtain ⟨k, rfl⟩ : ∃ m, k = m + 1 := ⟨k - 1, by omega⟩
    simp only [spec_l1Rising.l0]
    rw [if_neg (by rw [List.length_append, List.length_singleton]; omega)]
    rfl
  | x :: l, a, p, k, hl, hk => by
    obtain ⟨k, rfl⟩ : ∃ m, k = m + 1 := ⟨k - 1, by omega⟩
    have hl2 := hl
    rw [List.length_append, List.length_cons, List.length_cons] at hl2
    rw [List.length_cons] at hk
    have h := specR_l lo hi l (a ++ [p]) x k (by rw [List.append_assoc, List.singleton_append]; exact hl) (by omega)
    rw [List.append_assoc, List.singleton_append, len1 a p] at h
    have ex : rd (a ++ p :: x :: l) ((a.length : Int) + 1) = x := by
      have := rd_midI (a ++ [p]) x l
      rw [List.append_assoc, List.singleton_append, List.length_append, List.length_singleton] at this
      rw [show (a.length : Int) + 1 = ((a.length + 1 : Nat) : Int) by omega]
      exact this
    simp only [spec_l1Rising.l0]
    rw [if_pos (by rw [List.length_append, List.length_cons, List.length_cons]; omega), if_pos (by omega), if_pos (by rw [List.length_append, List.length_cons, List.length_cons]; omega), ex, spec_l1In_eq]
    simp only [Option.bind_some]
    rw [w64 (x := (a.length : Int) + 1 - 1) (by omega) (by omega), show (a.length : Int) + 1 - 1 = a.length by omega, rd_midI, w64 (x := (a.length : Int) + 1 + 1) (by omega) (by omega)]
    simp only [chk]
    by_cases e : lo ≤ x ∧ x ≤ hi
    · rw [decide_eq_true e]
      simp only [if_true, Bool.true_and]
      rw [if_pos (by omega), if_pos (by omega), if_pos (by rw [List.length_append, List.length_cons, List.length_cons]; omega)]
      by_cases e2 : p < x
      · rw [if_neg (by omega), decide_eq_true e2, Bool.true_and]
        rw [show (a.length : Int) + 1 + 1 = ((a.length + 1 : Nat) : Int) + 1 by omega]
        exact h
      · rw [if_pos (by omega), decide_eq_false e2, Bool.false_and]
    · rw [decide_eq_false e]
      simp
def okRow (lo hi : Int) : List Int → Bool
  | [] => true
  | p :: l => decide (lo ≤ p ∧ p ≤ hi) && chk lo hi p l
theorem specR (lo hi : Int) (l : List Int) (k : Nat) (hl : l.length ≤ 1000000000) (hk : l.length < k) : spec_l1Rising.f k l lo hi = some (okRow lo hi l) := by
  obtain ⟨k, rfl⟩ : ∃ m, k = m + 1 := ⟨k - 1, by omega⟩
  unfold spec_l1Rising.f
  cases l with
  | nil => simp [spec_l1Rising.l0, okRow]
  | cons p l =>
    rw [List.length_cons] at hk
    have h := specR_l lo hi l [] p k hl (by omega)
    simp only [spec_l1Rising.l0]
    have e0 : rd (p :: l) 0 = p := by simp [rd]
    rw [if_pos (by rw [List.length_cons]; omega), if_pos (by omega), if_pos (by rw [List.length_cons]; omega), e0, spec_l1In_eq]
    simp only [Option.bind_some, okRow]
    by_cases e : lo ≤ p ∧ p ≤ hi
    · rw [decide_eq_true e]
      simp only [if_true, Bool.true_and]
      rw [if_neg (by omega), w64 (by omega) (by omega)]
      simpa using h
    · rw [decide_eq_false e]
      simp
theorem implR_l : ∀ (l a : List Int) (p : Int) (k : Nat), (a ++ p :: l).length ≤ 1000000000 → l.length < k →
    impl_rising.l0 k (a ++ p :: l) ((a.length : Int) + 1) = some (adj p l)
  | [], a, p, k, hl, hk => by
    obtain ⟨k, rfl⟩ : ∃ m, k = m + 1 := ⟨k - 1, by omega⟩
    simp only [impl_rising.l0]
    rw [if_neg (by rw [List.length_append, List.length_singleton]; omega)]
    rfl
  | x :: l, a, p, k, hl, hk => by
    obtain ⟨k, rfl⟩ : ∃ m, k = m + 1 := ⟨k - 1, by omega⟩
    have hl2 := hl
    rw [List.length_append, List.length_cons, List.length_cons] at hl2
    rw [List.length_cons] at hk
    have h := implR_l l (a ++ [p]) x k (by rw [List.append_assoc, List.singleton_append]; exact hl) (by omega)
    rw [List.append_assoc, List.singleton_append, len1 a p] at h
    have ex : rd (a ++ p :: x :: l) ((a.length : Int) + 1) = x := by
      have := rd_midI (a ++ [p]) x l
      rw [List.append_assoc, List.singleton_append, List.length_append, List.length_singleton] at this
      rw [show (a.length : Int) + 1 = ((a.length + 1 : Nat) : Int) by omega]
      exact this
    simp only [impl_rising.l0]
    rw [if_pos (by rw [List.length_append, List.length_cons, List.length_cons]; omega), w64 (x := (a.length : Int) + 1 - 1) (by omega) (by omega), show (a.length : Int) + 1 - 1 = a.length by omega, if_pos (by omega), if_pos (by rw [List.length_append, List.length_cons, List.length_cons]; omega), if_pos (by omega), rd_midI, ex, w64 (x := (a.length : Int) + 1 + 1) (by omega) (by omega)]
    simp only [adj]
    by_cases e2 : p < x
    · rw [if_neg (by omega), decide_eq_true e2, Bool.true_and]
      rw [show (a.length : Int) + 1 + 1 = ((a.length + 1 : Nat) : Int) + 1 by omega]
      exact h
    · rw [if_pos (by omega), decide_eq_false e2, Bool.false_and]
def ris : List Int → Bool
  | [] => true
  | p :: l => adj p l
theorem implR (l : List Int) (k : Nat) (hl : l.length ≤ 1000000000) (hk : l.length < k) : impl_rising.f k l = some (ris l) := by
  obtain ⟨k, rfl⟩ : ∃ m, k = m + 1 := ⟨k - 1, by omega⟩
  unfold impl_rising.f
  cases l with
  | nil => simp [impl_rising.l0, ris]
  | cons p l =>
    rw [List.length_cons] at hk
    have h := implR_l l [] p (k + 1) hl (by omega)
    simpa [ris] using h
theorem okRow_eq (lo hi : Int) (l : List Int) : okRow lo hi l = (ris l && l.all fun x => decide (lo ≤ x ∧ x ≤ hi)) := by
  cases l with
  | nil => rfl
  | cons p l =>
    simp only [okRow, ris, chk_eq, List.all_cons]
    cases decide (lo ≤ p ∧ p ≤ hi) <;> cases adj p l <;> simp
theorem okRow_in (lo hi : Int) (l : List Int) (h : okRow lo hi l = true) : ∀ x ∈ l, lo ≤ x ∧ x ≤ hi := by
  rw [okRow_eq, Bool.and_eq_true] at h
  intro x hx
  have := List.all_eq_true.1 h.2 x hx
  simpa using this
theorem put_of (l : List Int) (n x : Int) : x ∈ put l n ↔ x ∈ l ∨ x = n := by
  unfold put
  split
  · rename_i h
    constructor
    · exact fun h => .inl h
    · rintro (h1 | rfl)
      · exact h1
      · rw [← h.2]
        unfold rd
        rw [Int.toNat_natCast, List.getD_eq_getElem?_getD, List.getElem?_eq_getElem h.1]
        exact List.getElem_mem h.1
  · rw [List.mem_append, List.mem_append, List.mem_singleton]
    have e : x ∈ l ↔ x ∈ l.take (_root_.Go.Proofs.Ytnemglgbginbdaa.PFnExactLeadersBy.ahead n l) ∨ x ∈ l.drop (_root_.Go.Proofs.Ytnemglgbginbdaa.PFnExactLeadersBy.ahead n l) := by
      rw [← List.mem_append, List.take_append_drop]
    rw [e]
    constructor
    · rintro ((h | h) | h)
      · exact .inl (.inl h)
      · exact .inr h
      · exact .inl (.inr h)
    · rintro ((h | h) | h)
      · exact .inl (.inl h)
      · exact .inr h
      · exact .inl (.inr h)
theorem put_len (l : List Int) (n : Int) : (put l n).length ≤ l.length + 1 := by
  unfold put
  split
  · omega
  · rw [List.length_append, List.length_append, List.length_take, List.length_drop, List.length_singleton]; omega
/-! Both halves. -/
def who (l : List S46) (i : Nat) (x : List Int) : Int := leadId (lead none (rd_T46 l i :: x.map fun y => rd_T46 l y))
def outB (l : List S46) : Nat → List (List Int) → List Int → List Int × Bool
  | _, [], out => (out, true)
  | i, x :: s, out => if okRow 0 ((l.length : Int) - 1) x = true then outB l (i + 1) s (out ++ [who l i x]) else ([], false)
theorem who_spec (l : List S46) (i : Nat) (x : List Int) : leadId (lead none ((put x i).map fun y => rd_T46 l y)) = who l i x := by
  unfold who
  refine lead_same _ _ fun z => ?_
  rw [List.mem_map, List.mem_cons, List.mem_map]
  constructor
  · rintro ⟨y, hy, rfl⟩
    rcases (put_of x i y).1 hy with h | rfl
    · exact .inr ⟨y, h, rfl⟩
    · exact .inl rfl
  · rintro (rfl | ⟨y, hy, rfl⟩)
    · exact ⟨i, (put_of x i i).2 (.inr rfl), rfl⟩
    · exact ⟨y, (put_of x i y).2 (.inl hy), rfl⟩
theorem specL_l (B : Nat) (hB : B ≤ 10000000) (l : List S46) (hl : l.length ≤ 10) : ∀ (s a : List (List Int)) (out : List Int) (k : Nat), (∀ x ∈ s, x.length ≤ B) → (a ++ s).length = l.length → out.length ≤ a.length → s.length + B + 10 < k →
    spec_LeadersBy.l0 k l (a ++ s) out a.length = some (outB l a.length s out)
  | [], a, out, k, _, _, _, hk => by
    obtain ⟨k, rfl⟩ : ∃ m, k = m + 1 := ⟨k - 1, by omega⟩
    simp only [spec_LeadersBy.l0, List.append_nil]
    rw [if_neg (by omega)]
    rfl
  | x :: s, a, out, k, hb, hn, ho, hk => by
    obtain ⟨k, rfl⟩ : ∃ m, k = m + 1 := ⟨k - 1, by omega⟩
    have hx := hb x List.mem_cons_self
    have hn2 := hn
    rw [List.length_append, List.length_cons] at hn2
    rw [List.length_cons] at hk
    simp only [spec_LeadersBy.l0, outB]
    rw [if_pos (len_mid a x s), if_pos (by omega), rdL_mid, w64 (x := (l.length : Int) - 1) (by omega) (by omega), specR _ _ x k (by omega) (by omega)]
    simp only [Option.bind_some]
    cases hok : okRow 0 ((l.length : Int) - 1) x
    · rw [if_neg (by decide), if_neg (by decide)]
    · rw [if_pos rfl, if_pos rfl, if_pos (by omega)]
      have hin := okRow_in _ _ x hok
      have hpl := put_len x (a.length : Int)
      rw [spec_leaderB l (put x (a.length : Int)) k (by omega) (by
        intro y hy
        rcases (put_of x (a.length : Int) y).1 hy with h | rfl
        · have := hin y h; omega
        · omega) (by omega), who_spec]
      simp only [Option.bind_some]
      rw [if_pos (by omega), next_mid a x (by omega)]
      have h := specL_l B hB l hl s (a ++ [x]) (out ++ [who l a.length x]) k (fun y hy => hb y (List.mem_cons_of_mem _ hy)) (by rw [List.append_assoc, List.singleton_append]; exact hn) (by rw [List.length_append, List.length_append, List.length_singleton, List.length_singleton]; omega) (by omega)
      rw [List.append_assoc a [x] s, List.singleton_append, len1 a x] at h
      rw [List.length_append, List.length_singleton]
      exact h
theorem implS_l (l : List S46) (hl : l.length ≤ 10) (out : List Int) (s : List (List Int)) (n i : Int) : ∀ (y b : List Int) (z : List S46) (k : Nat), (∀ x ∈ y, 0 ≤ x ∧ x ≤ (l.length : Int) - 1) → (b ++ y).length ≤ 10000000 → z.length ≤ b.length + 1 → y.length < k →
    impl_LeadersBy.l1 k l out z s n i (b ++ y) (b ++ y).length b.length = (impl_leader.f (k - 1 - y.length) (z ++ y.map fun y => rd_T46 l y)).bind fun t => if out.length < 17592186044416 then impl_LeadersBy.l0 (k - 1 - y.length) l (out ++ [t]) s n (wrap64 (i + 1)) else none
  | [], b, z, k, _, _, _, hk => by
    obtain ⟨k, rfl⟩ : ∃ m, k = m + 1 := ⟨k - 1, by omega⟩
    simp only [impl_LeadersBy.l1, List.append_nil, List.map_nil]
    rw [if_neg (by omega)]
    rfl
  | x :: y, b, z, k, hb, hn, hz, hk => by
    obtain ⟨k, rfl⟩ : ∃ m, k = m + 1 := ⟨k - 1, by omega⟩
    have hx := hb x List.mem_cons_self
    have hn2 := hn
    rw [List.length_append, List.length_cons] at hn2
    rw [List.length_cons] at hk
    simp only [impl_LeadersBy.l1]
    rw [if_pos (len_mid b x y), if_pos (by omega), if_pos (len_mid b x y), rd_midI, if_pos (by omega), if_pos (by omega), if_pos (by omega), next_mid b x (by omega)]
    have h := implS_l l hl out s n i y (b ++ [x]) (z ++ [rd_T46 l x]) k (fun w hw => hb w (List.mem_cons_of_mem _ hw)) (by rw [List.append_assoc, List.singleton_append]; exact hn) (by rw [List.length_append, List.length_append, List.length_singleton, List.length_singleton]; omega) (by omega)
    rw [List.append_assoc b [x] y, List.singleton_append, List.append_assoc z, List.singleton_append] at h
    rw [show k + 1 - 1 - (x :: y).length = k - 1 - y.length by rw [List.length_cons]; omega]
    exact h
theorem rd_in (l : List S46) (i : Nat) (h : i < l.length) : rd_T46 l i ∈ l := by
  rw [show rd_T46 l i = l[i] by simp [rd_T46, List.getD_eq_getElem?_getD, List.getElem?_eq_getElem h]]
  exact List.getElem_mem h
theorem implL_l (B : Nat) (hB : B ≤ 1048576) (l : List S46) (hl : l.length ≤ 10) (hid : ∀ x ∈ l, 1 ≤ x.f0) : ∀ (s a : List (List Int)) (out : List Int) (k : Nat), (∀ x ∈ s, x.length ≤ B) → (a ++ s).length = l.length → out.length ≤ a.length → (s.length + 1) * (2 * B + 10) < k →
    impl_LeadersBy.l0 k l out (a ++ s) (a ++ s).length a.length = some (outB l a.length s out)
  | [], a, out, k, _, _, _, hk => by
    obtain ⟨k, rfl⟩ : ∃ m, k = m + 1 := ⟨k - 1, by omega⟩
    simp only [impl_LeadersBy.l0, List.append_nil]
    rw [if_neg (by omega)]
    rfl
  | x :: s, a, out, k, hb, hn, ho, hk => by
    have hx := hb x List.mem_cons_self
    have hn2 := hn
    rw [List.length_append, List.length_cons] at hn2
    rw [List.length_cons, Nat.add_mul, Nat.one_mul] at hk
    have hk2 : 2 * B + 10 ≤ (s.length + 1) * (2 * B + 10) := Nat.le_mul_of_pos_left _ (by omega)
    generalize hG : (s.length + 1) * (2 * B + 10) = G at hk hk2
    obtain ⟨k, rfl⟩ : ∃ m, k = m + 3 := ⟨k - 3, by omega⟩
    rw [show k + 3 = (k + 2) + 1 from rfl]
    simp only [impl_LeadersBy.l0, outB]
    rw [if_pos (len_mid a x s), if_pos (by omega), if_pos (len_mid a x s), rdL_mid, w64 (x := (l.length : Int) - 1) (by omega) (by omega), implR x (k + 2) (by omega) (by omega), okRow_eq]
    simp only [Option.bind_some]
    cases hr : ris x
    · rw [if_neg (by decide), Bool.false_and, if_neg (by decide)]
      rw [show k + 2 = (k + 1) + 1 from rfl]
      simp [impl_LeadersBy.j2]
    · rw [if_pos rfl, impl_allIn_eq x _ _ (k + 2) (by omega) (by omega)]
      simp only [Option.bind_some, Bool.true_and]
      cases hal : x.all fun x => decide (0 ≤ x ∧ x ≤ (l.length : Int) - 1)
      · rw [if_neg (by decide)]
        rw [show k + 2 = (k + 1) + 1 from rfl]
        simp [impl_LeadersBy.j2]
      · rw [if_pos rfl, show k + 2 = (k + 1) + 1 from rfl]
        simp only [impl_LeadersBy.j2, Bool.not_true, Bool.false_eq_true, if_false]
        rw [if_pos (by omega), if_pos (by omega)]
        have hin : ∀ y ∈ x, 0 ≤ y ∧ y ≤ (l.length : Int) - 1 := fun y hy => by simpa using List.all_eq_true.1 hal y hy
        have h1 := implS_l l hl out (a ++ x :: s) (a ++ x :: s).length a.length x [] [rd_T46 l a.length] (k + 1) hin (by rw [List.nil_append]; omega) (by simp) (by omega)
        rw [List.nil_append] at h1
        rw [show ([(⟨(rd_T46 l (a.length : Int)).f0, (rd_T46 l (a.length : Int)).f1, (rd_T46 l (a.length : Int)).f2⟩ : S46)] : List S46) = [rd_T46 l (a.length : Int)] from rfl]
        refine h1.trans ?_
        rw [impl_leaderB _ _ (by rw [List.length_append, List.length_map, List.length_singleton]; omega) (by
          intro z hz
          rcases List.mem_append.1 hz with hz | hz
          · rw [List.mem_singleton.1 hz]
            exact hid _ (rd_in l a.length (by omega))
          · obtain ⟨y, hy, rfl⟩ := List.mem_map.1 hz
            have := hin y hy
            rw [show y = ((y.toNat : Nat) : Int) by omega]
            exact hid _ (rd_in l y.toNat (by omega))) (by rw [List.length_append, List.length_map, List.length_singleton]; omega)]
        simp only [Option.bind_some]
        rw [if_pos (by omega), next_mid a x (by omega)]
        have h := implL_l B hB l hl hid s (a ++ [x]) (out ++ [who l a.length x]) (k + 1 - 1 - x.length) (fun y hy => hb y (List.mem_cons_of_mem _ hy)) (by rw [List.append_assoc, List.singleton_append]; exact hn) (by rw [List.length_append, List.length_append, List.length_singleton, List.length_singleton]; omega) (by rw [hG]; omega)
        rw [List.append_assoc a [x] s, List.singleton_append, len1 a x] at h
        rw [len1 a x]
        exact h
def lbR (l : List S46) (s : List (List Int)) : List Int × Bool := if goodB l = true ∧ s.length = l.length then outB l 0 s [] else ([], false)
theorem outB_len (l : List S46) : ∀ (s : List (List Int)) (i : Nat) (out : List Int), (outB l i s out).1.length ≤ out.length + s.length
  | [], i, out => by simp [outB]
  | x :: s, i, out => by
    unfold outB
    split
    · have := outB_len l s (i + 1) (out ++ [who l i x])
      rw [List.length_append, List.length_singleton] at this
      rw [List.length_cons]
      omega
    · simp
theorem spec_LB (l : List S46) (s : List (List Int)) (k : Nat) (hl : l.length ≤ 4611686018427387904) (hb : ∀ x ∈ s, x.length ≤ 1048576) (hk : l.length + s.length + 1048576 + 10 < k) : spec_LeadersBy.f k l s = some (lbR l s) := by
  unfold spec_LeadersBy.f lbR
  rw [spec_goodB l k hl (by omega)]
  simp only [Option.bind_some]
  cases hg : goodB l
  · rw [if_neg (by decide), if_neg (by simp)]
  · rw [if_pos rfl]
    by_cases e : s.length = l.length
    · rw [if_pos e, if_pos ⟨rfl, e⟩]
      have hl10 := (goodB_ok l hg).2.2
      have h := specL_l 1048576 (by omega) l hl10 s [] [] k hb e (Nat.le_refl _) (by omega)
      exact h
    · rw [if_neg e, if_neg (fun h => e h.2)]
theorem impl_LB (l : List S46) (s : List (List Int)) (k : Nat) (hl : l.length ≤ 4611686018427387904) (hb : ∀ x ∈ s, x.length ≤ 1048576) (hk : l.length + 11 * 2097162 + 10 < k) : impl_LeadersBy.f k l s = some (lbR l s) := by
  unfold impl_LeadersBy.f lbR
  rw [impl_goodB l k hl (by omega)]
  obtain ⟨k, rfl⟩ : ∃ m, k = m + 1 := ⟨k - 1, by omega⟩
  simp only [Option.bind_some, impl_LeadersBy.j0]
  cases hg : goodB l
  · rw [if_neg (by decide), if_pos trivial, if_neg (by simp)]
  · rw [if_pos rfl]
    by_cases e : s.length = l.length
    · rw [if_neg (by rw [e]; simp), if_pos ⟨rfl, e⟩]
      obtain ⟨hid, _, hl10⟩ := goodB_ok l hg
      have hm : (s.length + 1) * (2 * 1048576 + 10) ≤ 11 * 2097162 := Nat.mul_le_mul (by omega) (by omega)
      have h := implL_l 1048576 (Nat.le_refl _) l hl10 (fun x hx => (hid x hx).1.1) s [] [] k hb e (Nat.le_refl _) (by omega)
      exact h
    · rw [if_pos (by simp; omega), if_neg (fun h => e h.2)]
theorem FnExactLeadersBy : laws_FnExactLeadersBy.PureS := by
  intro l s ⟨hn, _⟩ ⟨hm, hrow⟩
  have hrl : ∀ x ∈ s, x.length ≤ 140737488351232 := fun x hx => by have := (hrow x hx).1; omega
  obtain ⟨K, hK⟩ : ∃ K, K = l.length + s.length + 100000000 := ⟨_, rfl⟩
  refine ⟨K, ?_⟩
  unfold laws_FnExactLeadersBy.f laws_szBridgeS.f
  rw [w64 (by omega) (by omega)]
  by_cases h0 : 1048576 - (l.length : Int) < 0
  · rw [if_pos h0]
    simp
  · rw [if_neg h0]
    simp only [Option.bind_some]
    rw [if_neg h0]
    obtain ⟨r, hr, hd⟩ := szSS_any s (1048576 - (l.length : Int)) K (by omega) (by omega) hrl (by omega)
    rw [hr]
    simp only [Option.bind_some]
    by_cases h1 : r < 0
    · rw [if_pos h1]
    · rw [if_neg h1]
      obtain ⟨hsl, hb⟩ : s.length ≤ 1048576 ∧ ∀ x ∈ s, x.length ≤ 1048576 := by
        rcases hd with hd | hd
        · exact absurd hd h1
        · exact hd.2
      have hml : (l.map cv44).length = l.length := List.length_map _
      rw [laws_toBridgeS_eq l K (by omega) (by omega), toSS s 1048576 K (by omega) (by omega) hb (by omega)]
      simp only [Option.bind_some]
      rw [spec_LB _ s K (by omega) hb (by omega), impl_LB _ s K (by omega) hb (by omega)]
      obtain ⟨q, hq, hql⟩ : ∃ q, lbR (l.map cv44) s = q ∧ q.1.length ≤ 1048576 := by
        refine ⟨_, rfl, ?_⟩
        unfold lbR
        split
        · have := outB_len (l.map cv44) s 0 []
          simp only [List.length_nil] at this
          omega
        · simp
      rw [hq]
      simp only [Option.bind_some]
      rw [eqI q.1 q.1 K (by omega) (by omega)]
      simp only [Option.bind_some, decide_true, if_true]
      rw [laws_eqBridgeS_refl _ K (by omega) (by omega)]
      simp only [Option.bind_some, if_true]
      rw [eqSS_refl s 1048576 K (by omega) (by omega) hb (by omega)]
      simp only [Option.bind_some, if_true]
      rw [laws_markBridgeS_eq _ 1 K (by omega) (by omega) (by omega)]
      simp only [Option.bind_some]
      have hz := szSS_bd 1048576 s hb
      have hz2 : s.length * 1048576 ≤ 1048576 * 1048576 := Nat.mul_le_mul_right _ hsl
      rw [markSS 1048576 (by omega) s _ K hb (by omega) (by omega) (by omega) (by omega)]
      simp only [Option.bind_some]
      rw [if_pos (by omega), markI q.1 1 K (by omega) (by omega) (by omega)]
      simp only [Option.bind_some]
      rw [heldI 1 q.1.length K (by omega) (by omega) (by omega)]
      simp only [Option.bind_some]
      rw [if_pos trivial, if_pos (by omega)]

end Go.Proofs.Ytnemglgbginbdaa.Pure
