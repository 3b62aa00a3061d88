/- FnExactPartsOf answers true for each list of parts and each kind. No condition beyond the row's own bounds. -/
import Derived.Test.YtajfpfmbmkmafaaSFnExactPartsOf
namespace Go.Proofs.Ytajfpfmbmkmafaa.Pure
open Go.RowKit Go.Proofs.Ytajfpfmbmkmafaa.PFnExactPartsOf Go.Proofs.YtajfpfmbmkmafaaW.PrintWords Go.Proofs.YtajfpfmbmkmafaaW.PrintLast
set_option linter.unusedVariables false
set_option linter.unusedSimpArgs false

-- w64
theorem w64 {x : Int} (h0 : -9223372036854775808 ≤ x) (h1 : x ≤ 9223372036854775807) : wrap64 x = x := by
  unfold wrap64
  omega
theorem tm {x y : Int} (h0 : 0 ≤ x) : Int.tmod x y = x % y := Int.tmod_eq_emod_of_nonneg h0
theorem wf64 {x : Int} (h : (Lit.int .i64 x).wf = true) : -9223372036854775808 ≤ x ∧ x ≤ 9223372036854775807 := by
  simp [Lit.wf, IntKind.min, IntKind.max, IntKind.signed, IntKind.bits] at h
  omega

-- helps
theorem set_take {α : Type} (m L : List α) (i : Nat) (hi : i < L.length) (hm : m.length = L.length) (ht : m.take i = L.take i) (v : α) (hv : L[i]? = some v) : (m.set i v).take (i + 1) = L.take (i + 1) := by
  rw [List.take_set, List.take_succ_eq_append_getElem (by omega), List.take_succ_eq_append_getElem hi, ht, List.set_append_right _ _ (by rw [List.length_take]; omega)]
  rw [List.length_take, show i - min i L.length = 0 by omega]
  rw [List.getElem?_eq_getElem hi] at hv
  rw [Option.some.inj hv]
  rfl
/-- From some number of rounds on: one number for a pair. -/
theorem ev_at {α : Type} {g : Nat → Option α} {r : α} (h : Ev g r) : ∃ K, ∀ k, K ≤ k → g k = some r := h
theorem ev_some {α : Type} {g : Nat → Option α} {r : α} (h : ∀ k, g k = some r) : Ev g r := ⟨0, fun k _ => h k⟩
theorem ev_ge {α : Type} {g : Nat → Option α} {r : α} (K : Nat) (h : ∀ k, K ≤ k → g k = some r) : Ev g r := ⟨K, h⟩

-- toints
theorem toI_l (l : List Int) (hn : l.length ≤ 35184372088832) (d : Nat) : ∀ (k i : Nat) (m : List Int), i + d = l.length → m.length = l.length → m.take i = l.take i → d < k →
    laws_toIntS.l0 k l m i = some l := by
  induction d with
  | zero =>
    intro k i m h hm ht hk
    obtain ⟨k, rfl⟩ : ∃ m, k = m + 1 := ⟨k - 1, by omega⟩
    simp only [laws_toIntS.l0]
    rw [if_neg (by omega)]
    obtain rfl : i = l.length := by omega
    rw [List.take_length, ← hm, List.take_length] at ht
    rw [ht]
  | succ d ih =>
    intro k i m h hm ht hk
    obtain ⟨k, rfl⟩ : ∃ m, k = m + 1 := ⟨k - 1, by omega⟩
    simp only [laws_toIntS.l0]
    rw [if_pos (by omega), if_pos (by omega), if_pos (by omega), w64 (by omega) (by omega), show ((i : Int) + 1) = ((i + 1 : Nat) : Int) by omega]
    refine ih k (i + 1) _ (by omega) (by rw [List.length_set]; exact hm) ?_ (by omega)
    unfold rd
    rw [Int.toNat_natCast, List.take_set, List.take_succ_eq_append_getElem (by omega), List.take_succ_eq_append_getElem (by omega), ht,
      List.set_append_right _ _ (by rw [List.length_take]; omega)]
    simp [List.length_take, List.getD_eq_getElem?_getD, show i < l.length by omega, show min i l.length = i by omega]
theorem toI (l : List Int) (k : Nat) (hn : l.length ≤ 35184372088832) (hk : l.length < k) : laws_toIntS.f k l = some l := by
  unfold laws_toIntS.f
  rw [if_pos (by omega), if_pos (by omega)]
  exact toI_l l hn l.length k 0 _ (by omega) (by simp) (by simp) hk

-- upfrom
/-- n, n + 1, .., in so many places. -/
def upFrom (m : Int) (n : Nat) : List Int := (List.range n).map fun i : Nat => m + i
theorem upFrom_len (m : Int) (n : Nat) : (upFrom m n).length = n := by simp [upFrom]
theorem rd_nat (l : List Int) (i : Nat) : rd l i = l.getD i 0 := by simp [rd]
theorem rd_upFrom (m : Int) (n i : Nat) (h : i < n) : rd (upFrom m n) i = m + i := by
  simp [rd, upFrom, h]

-- eqi
theorem eqI_l (a b : List Int) (hl : a.length = b.length) (hn : a.length ≤ 4611686018427387904) (d : Nat) : ∀ (k i : Nat), i + d = a.length → d < k →
    laws_eqIntS.l0 k a b i = some (decide (a.drop i = b.drop i)) := by
  induction d with
  | zero =>
    intro k i h hk
    obtain ⟨k, rfl⟩ : ∃ m, k = m + 1 := ⟨k - 1, by omega⟩
    simp only [laws_eqIntS.l0]
    rw [if_neg (by omega), List.drop_of_length_le (by omega), List.drop_of_length_le (by omega)]
    simp
  | succ d ih =>
    intro k i h hk
    obtain ⟨k, rfl⟩ : ∃ m, k = m + 1 := ⟨k - 1, by omega⟩
    have h1 := ih k (i + 1) (by omega) (by omega)
    simp only [laws_eqIntS.l0]
    rw [if_pos (by omega), if_pos (by omega), if_pos (by omega), rd_nat, rd_nat, w64 (by omega) (by omega)]
    have ea : a.drop i = a.getD i 0 :: a.drop (i + 1) := by
      rw [List.getD_eq_getElem?_getD, List.getElem?_eq_getElem (by omega)]
      exact List.drop_eq_getElem_cons (by omega)
    have eb : b.drop i = b.getD i 0 :: b.drop (i + 1) := by
      rw [List.getD_eq_getElem?_getD, List.getElem?_eq_getElem (by omega)]
      exact List.drop_eq_getElem_cons (by omega)
    by_cases e : a.getD i 0 = b.getD i 0
    · rw [if_pos e]
      rw [show ((i : Int) + 1) = ((i + 1 : Nat) : Int) by omega, h1, ea, eb, e]
      simp
    · rw [if_neg e, ea, eb, decide_eq_false (fun h => e (List.cons.inj h).1)]
theorem eqI (a b : List Int) (k : Nat) (hn : a.length ≤ 4611686018427387904) (hk : a.length < k) : laws_eqIntS.f k a b = some (decide (a = b)) := by
  unfold laws_eqIntS.f
  by_cases hl : a.length = b.length
  · rw [if_pos (by omega)]
    simpa using eqI_l a b hl hn a.length k 0 (by omega) hk
  · rw [if_neg (by omega)]
    have : a ≠ b := fun e => hl (by rw [e])
    simp [this]

-- topart
theorem toPart_eq (a : Int) (s : ByteArray) (c : List Int) (k : Nat) (hn : c.length ≤ 35184372088832) (hk : c.length < k) : laws_toPart.f k a s c = some (a, s, c) := by
  unfold laws_toPart.f
  rw [toI _ _ hn hk]
  rfl
theorem eqPart_refl (a : Int) (s : ByteArray) (c : List Int) (k : Nat) (hn : c.length ≤ 4611686018427387904) (hk : c.length < k) : laws_eqPart.f k a s c a s c = some true := by
  unfold laws_eqPart.f
  rw [if_pos rfl, if_pos rfl, eqI _ _ _ hn hk]
  simp
/-- The room of a part: what is left, or less than nought. -/
theorem szPart_any (a : Int) (s : ByteArray) (c : List Int) (m : Int) (hs : s.size ≤ 140737488351232) (hc : c.length ≤ 140737488351232) (hm : 0 ≤ m ∧ m ≤ 1048576) :
    ∃ r, laws_szPart.f a s c m = some r ∧ (r < 0 ∨ (0 ≤ r ∧ r + s.size + c.length = m)) := by
  unfold laws_szPart.f laws_szIntS.f
  rw [w64 (x := m - (s.size : Int)) (by omega) (by omega), w64 (by omega) (by omega)]
  by_cases h1 : m - (s.size : Int) < 0
  · rw [if_pos h1]
    exact ⟨-1, rfl, Or.inl (by omega)⟩
  · rw [if_neg h1]
    by_cases h2 : m - (s.size : Int) - c.length < 0
    · rw [if_pos h2]
      exact ⟨-1, rfl, Or.inl (by omega)⟩
    · rw [if_neg h2]
      simp only [Option.bind_some]
      rw [if_neg h2]
      exact ⟨_, rfl, Or.inr (by omega)⟩

-- rdt(35)
theorem rd_T35_at (l : List S35) (i : Nat) (h : i < l.length) : rd_T35 l i = l[i] := by
  simp [rd_T35, List.getD_eq_getElem?_getD, List.getElem?_eq_getElem h]

-- rdt(38)
theorem rd_T38_at (l : List S38) (i : Nat) (h : i < l.length) : rd_T38 l i = l[i] := by
  simp [rd_T38, List.getD_eq_getElem?_getD, List.getElem?_eq_getElem h]

-- toparts
def cvP (x : S35) : S38 := ⟨x.f0, x.f1, x.f2⟩
theorem mapAt (l : List S35) (i : Nat) (h : i < l.length) : rd_T38 (l.map cvP) i = cvP l[i] := by
  rw [rd_T38_at _ _ (by rw [List.length_map]; exact h), List.getElem_map]
theorem toParts_l (l : List S35) (B : Nat) (hn : l.length ≤ 4611686018427387904) (hB : B ≤ 35184372088832) (hb : ∀ x ∈ l, x.f2.length ≤ B) (d : Nat) : ∀ (k i : Nat) (m : List S38), i + d = l.length → m.length = l.length → m.take i = (l.map cvP).take i → d + B + 1 < k →
    laws_toPartS.l0 k l m i = some (l.map cvP) := by
  induction d with
  | zero =>
    intro k i m h hm ht hk
    obtain ⟨k, rfl⟩ : ∃ m, k = m + 1 := ⟨k - 1, by omega⟩
    simp only [laws_toPartS.l0]
    rw [if_neg (by omega)]
    rw [List.take_of_length_le (by omega), List.take_of_length_le (by rw [List.length_map]; omega)] at ht
    rw [ht]
  | succ d ih =>
    intro k i m h hm ht hk
    obtain ⟨k, rfl⟩ : ∃ m, k = m + 1 := ⟨k - 1, by omega⟩
    have hx := hb (l[i]'(by omega)) (List.getElem_mem (by omega))
    simp only [laws_toPartS.l0]
    rw [if_pos (by omega), if_pos (by omega), rd_T35_at l i (by omega), toPart_eq _ _ _ _ (by omega) (by omega)]
    simp only [Option.bind_some]
    rw [if_pos (by omega), w64 (by omega) (by omega), show ((i : Int) + 1) = ((i + 1 : Nat) : Int) by omega]
    refine ih k (i + 1) _ (by omega) (by rw [List.length_set]; exact hm) ?_ (by omega)
    rw [Int.toNat_natCast]
    exact set_take _ _ i (by rw [List.length_map]; omega) (by rw [List.length_map]; exact hm) ht _ (by rw [List.getElem?_map, List.getElem?_eq_getElem (by omega)]; rfl)
theorem toParts_eq (l : List S35) (B k : Nat) (hn : l.length ≤ 5864062014805) (hB : B ≤ 35184372088832) (hb : ∀ x ∈ l, x.f2.length ≤ B) (hk : l.length + B + 1 < k) : laws_toPartS.f k l = some (l.map cvP) := by
  unfold laws_toPartS.f
  have h0 : (0 : Int) ≤ (l.length : Int) := by omega
  have h1 : ((l.length : Int) : Int).toNat ≤ 5864062014805 := by rw [Int.toNat_natCast]; exact hn
  rw [if_pos h0, if_pos h1]
  exact toParts_l l B (by omega) hB hb l.length k 0 _ (by omega) (by simp) (by simp) hk
theorem eqParts_l (l : List S38) (B : Nat) (hn : l.length ≤ 4611686018427387904) (hB : B ≤ 4611686018427387904) (hb : ∀ x ∈ l, x.f2.length ≤ B) (d : Nat) : ∀ (k i : Nat), i + d = l.length → d + B + 1 < k → laws_eqPartS.l0 k l l i = some true := by
  induction d with
  | zero =>
    intro k i h hk
    obtain ⟨k, rfl⟩ : ∃ m, k = m + 1 := ⟨k - 1, by omega⟩
    simp only [laws_eqPartS.l0]
    rw [if_neg (by omega)]
  | succ d ih =>
    intro k i h hk
    obtain ⟨k, rfl⟩ : ∃ m, k = m + 1 := ⟨k - 1, by omega⟩
    have h1 := ih k (i + 1) (by omega) (by omega)
    have hx := hb (l[i]'(by omega)) (List.getElem_mem (by omega))
    simp only [laws_eqPartS.l0]
    rw [if_pos (by omega), if_pos (by omega), if_pos (by omega), rd_T38_at l i (by omega), eqPart_refl _ _ _ _ (by omega) (by omega), w64 (by omega) (by omega), show ((i : Int) + 1) = ((i + 1 : Nat) : Int) by omega, h1]
    simp
theorem eqParts_refl (l : List S38) (B k : Nat) (hn : l.length ≤ 4611686018427387904) (hB : B ≤ 4611686018427387904) (hb : ∀ x ∈ l, x.f2.length ≤ B) (hk : l.length + B + 1 < k) : laws_eqPartS.f k l l = some true := by
  unfold laws_eqPartS.f
  rw [if_pos rfl]
  exact eqParts_l l B hn hB hb l.length k 0 (by omega) hk
theorem szParts_l (l : List S35) (hn : l.length ≤ 4611686018427387904) (hl : ∀ x ∈ l, x.f1.size ≤ 140737488351232 ∧ x.f2.length ≤ 140737488351232) (d : Nat) : ∀ (k i : Nat) (m : Int), i + d = l.length → 0 ≤ m ∧ m ≤ 1048576 → d < k →
    ∃ r, laws_szPartS.l0 k l m i = some r ∧ (r < 0 ∨ (0 ≤ r ∧ ∀ x ∈ l.drop i, x.f1.size ≤ 1048576 ∧ x.f2.length ≤ 1048576)) := by
  induction d with
  | zero =>
    intro k i m h hm hk
    obtain ⟨k, rfl⟩ : ∃ m, k = m + 1 := ⟨k - 1, by omega⟩
    simp only [laws_szPartS.l0]
    rw [if_neg (by omega), List.drop_of_length_le (by omega)]
    exact ⟨m, rfl, Or.inr ⟨hm.1, fun x hx => absurd hx (List.not_mem_nil)⟩⟩
  | succ d ih =>
    intro k i m h hm hk
    obtain ⟨k, rfl⟩ : ∃ m, k = m + 1 := ⟨k - 1, by omega⟩
    have hx := hl (l[i]'(by omega)) (List.getElem_mem (by omega))
    simp only [laws_szPartS.l0]
    rw [if_pos (by omega), if_pos (by omega), w64 (x := (i : Int) + 1) (by omega) (by omega), show ((i : Int) + 1) = ((i + 1 : Nat) : Int) by omega, rd_T35_at l i (by omega)]
    obtain ⟨z, hz, hc⟩ := szPart_any (l[i]'(by omega)).f0 (l[i]'(by omega)).f1 (l[i]'(by omega)).f2 m hx.1 hx.2 hm
    rw [hz]
    simp only [Option.bind_some]
    by_cases h0 : z < 0
    · rw [if_pos h0]
      exact ⟨-1, rfl, Or.inl (by omega)⟩
    · rw [if_neg h0]
      obtain ⟨r, hr, hd⟩ := ih k (i + 1) z (by omega) (by omega) (by omega)
      refine ⟨r, hr, ?_⟩
      rcases hd with hd | ⟨hd, hx2⟩
      · exact Or.inl hd
      · refine Or.inr ⟨hd, fun x hx => ?_⟩
        rw [List.drop_eq_getElem_cons (by omega)] at hx
        rcases List.mem_cons.1 hx with rfl | hx
        · omega
        · exact hx2 x hx
theorem szParts_any (l : List S35) (k : Nat) (hn : l.length ≤ 140737488351232) (hl : ∀ x ∈ l, x.f1.size ≤ 140737488351232 ∧ x.f2.length ≤ 140737488351232) (hk : l.length < k) :
    ∃ r, laws_szPartS.f k l 1048576 = some r ∧ (r < 0 ∨ (0 ≤ r ∧ ∀ x ∈ l, x.f1.size ≤ 1048576 ∧ x.f2.length ≤ 1048576)) := by
  unfold laws_szPartS.f
  rw [w64 (by omega) (by omega)]
  by_cases h : 1048576 - (l.length : Int) < 0
  · rw [if_pos h]
    exact ⟨-1, rfl, Or.inl (by omega)⟩
  · rw [if_neg h]
    have := szParts_l l (by omega) hl l.length k 0 (1048576 - (l.length : Int)) (by omega) (by omega) hk
    simpa using this

-- marki
theorem markI_l (m : Int) (hm : 0 ≤ m ∧ m ≤ 4611686018427387904) (d : Nat) : ∀ (k i : Nat) (l : List Int), i + d = l.length → l.length ≤ 2305843009213693952 → d < k → l.take i = upFrom m i →
    laws_markIntS.l0 k l (m + i) i = some (m + l.length, upFrom m l.length) := by
  induction d with
  | zero =>
    intro k i l h hn hk ht
    obtain ⟨k, rfl⟩ : ∃ m, k = m + 1 := ⟨k - 1, by omega⟩
    simp only [laws_markIntS.l0]
    rw [if_neg (by omega)]
    obtain rfl : i = l.length := by omega
    rw [List.take_length] at ht
    rw [← ht]
  | succ d ih =>
    intro k i l h hn hk ht
    obtain ⟨k, rfl⟩ : ∃ m, k = m + 1 := ⟨k - 1, by omega⟩
    simp only [laws_markIntS.l0]
    rw [if_pos (by omega), if_pos (by omega), w64 (x := m + i + 1) (by omega) (by omega), w64 (x := (i : Int) + 1) (by omega) (by omega)]
    have h1 := ih k (i + 1) (l.set (i : Int).toNat (m + i)) (by rw [List.length_set]; omega) (by rw [List.length_set]; omega) (by omega) ?_
    · rw [List.length_set] at h1
      rw [show m + (i : Int) + 1 = m + ((i + 1 : Nat) : Int) by omega, show (i : Int) + 1 = ((i + 1 : Nat) : Int) by omega]
      exact h1
    · rw [Int.toNat_natCast, List.take_set]
      rw [show List.take (i + 1) l = List.take i l ++ [l.getD i 0] by
        rw [List.take_succ_eq_append_getElem (by omega), List.getD_eq_getElem?_getD, List.getElem?_eq_getElem (by omega)]; rfl]
      rw [ht, List.set_append_right _ _ (by rw [upFrom_len]; omega), upFrom_len]
      simp [upFrom, List.range_succ]
theorem markI (l : List Int) (m : Int) (k : Nat) (hm : 0 ≤ m ∧ m ≤ 4611686018427387904) (hn : l.length ≤ 2305843009213693952) (hk : l.length < k) :
    laws_markIntS.f k l m = some (m + l.length, upFrom m l.length) := by
  have h := markI_l m hm l.length k 0 l (by omega) hn hk (by simp [upFrom])
  unfold laws_markIntS.f
  simpa using h
theorem heldI_l (m : Int) (hm : 0 ≤ m ∧ m ≤ 4611686018427387904) (n : Nat) (hn : n ≤ 2305843009213693952) (d : Nat) : ∀ (k i : Nat), i + d = n → d < k →
    laws_heldIntS.l0 k (upFrom m n) (m + i) i = some (m + n) := by
  induction d with
  | zero =>
    intro k i h hk
    obtain ⟨k, rfl⟩ : ∃ m, k = m + 1 := ⟨k - 1, by omega⟩
    simp only [laws_heldIntS.l0]
    rw [if_neg (by rw [upFrom_len]; omega)]
    obtain rfl : i = n := by omega
    rfl
  | succ d ih =>
    intro k i h hk
    obtain ⟨k, rfl⟩ : ∃ m, k = m + 1 := ⟨k - 1, by omega⟩
    have h1 := ih k (i + 1) (by omega) (by omega)
    simp only [laws_heldIntS.l0]
    rw [if_pos (by rw [upFrom_len]; omega), if_pos (by omega), rd_upFrom m n i (by omega), if_pos rfl, w64 (x := m + i + 1) (by omega) (by omega), w64 (x := (i : Int) + 1) (by omega) (by omega)]
    rw [show m + (i : Int) + 1 = m + ((i + 1 : Nat) : Int) by omega, show (i : Int) + 1 = ((i + 1 : Nat) : Int) by omega]
    exact h1
theorem heldI (m : Int) (n k : Nat) (hm : 0 ≤ m ∧ m ≤ 4611686018427387904) (hn : n ≤ 2305843009213693952) (hk : n < k) : laws_heldIntS.f k (upFrom m n) m = some (m + n) := by
  have h := heldI_l m hm n hn n k 0 (by omega) hk
  unfold laws_heldIntS.f
  simpa using h

-- strsize
theorem strSize (l : List Int) : (strOfNums l).size = l.length := by
  simp [strOfNums, ByteArray.size]

-- partmarks
theorem mt_l (d : Nat) : ∀ (n : Int) (s : ByteArray), 0 ≤ n → n ≤ 9223372036854775807 → n < ((10 ^ d : Nat) : Int) → s.size + d ≤ 1000 → ∃ t, ∀ k, d < k → laws_markText.l0 k n s = some t := by
  induction d with
  | zero =>
    intro n s h0 hn h1 hs
    have e : n = 0 := by simp at h1; omega
    subst e
    refine ⟨(⟨#[109]⟩ : ByteArray) ++ s, fun k hk => ?_⟩
    obtain ⟨k, rfl⟩ : ∃ m, k = m + 1 := ⟨k - 1, by omega⟩
    simp only [laws_markText.l0]
    rw [if_neg (by omega), if_pos (by omega)]
  | succ d ih =>
    intro n s h0 hn h1 hs
    by_cases hp : n > 0
    · have hz : (strOfNums [(wrap64 (48 + (Int.tmod n 10))) % 256]).size = 1 := by rw [strSize]; rfl
      have hq : n / 10 < ((10 ^ d : Nat) : Int) := by
        rw [Nat.pow_succ] at h1
        omega
      obtain ⟨t, ht⟩ := ih (n / 10) (strOfNums [(wrap64 (48 + (Int.tmod n 10))) % 256] ++ s) (by omega) (by omega) hq (by rw [ByteArray.size_append, hz]; omega)
      refine ⟨t, fun k hk => ?_⟩
      obtain ⟨k, rfl⟩ : ∃ m, k = m + 1 := ⟨k - 1, by omega⟩
      simp only [laws_markText.l0]
      rw [if_pos hp]
      simp only [Option.bind_some]
      rw [if_pos (by omega), Int.tdiv_eq_ediv_of_nonneg h0, w64 (x := n / 10) (by omega) (by omega)]
      exact ht k (by omega)
    · have e : n = 0 := by omega
      subst e
      refine ⟨(⟨#[109]⟩ : ByteArray) ++ s, fun k hk => ?_⟩
      obtain ⟨k, rfl⟩ : ∃ m, k = m + 1 := ⟨k - 1, by omega⟩
      simp only [laws_markText.l0]
      rw [if_neg (by omega), if_pos (by omega)]
def mt (n : Int) : ByteArray := (laws_markText.f 100 n).getD ⟨#[]⟩
theorem mt_eq (n : Int) (h0 : 0 < n) (h1 : n ≤ 100000000000000) (k : Nat) (hk : 20 < k) : laws_markText.f k n = some (mt n) := by
  obtain ⟨t, ht⟩ := mt_l 15 n ⟨#[]⟩ (by omega) (by omega) (by rw [show ((10 ^ 15 : Nat) : Int) = 1000000000000000 by decide]; omega) (by decide)
  have h : ∀ k, 20 < k → laws_markText.f k n = some t := by
    intro k hk
    unfold laws_markText.f
    rw [if_neg (by omega)]
    exact ht k (by omega)
  unfold mt
  rw [h k hk, h 100 (by omega)]
  rfl
def szP : List S38 → Nat
  | [] => 0
  | x :: l => 2 + x.f2.length + szP l
def mkP (m : Int) : List S38 → List S38
  | [] => []
  | x :: l => ⟨m, mt (m + 1), upFrom (m + 2) x.f2.length⟩ :: mkP (m + 2 + (x.f2.length : Int)) l
theorem mkP_len : ∀ (l : List S38) (m : Int), (mkP m l).length = l.length
  | [], _ => rfl
  | x :: l, m => by simp [mkP, mkP_len l]
theorem szP_bd (B : Nat) : ∀ (l : List S38), (∀ x ∈ l, x.f2.length ≤ B) → szP l ≤ l.length * (2 + B)
  | [], _ => Nat.zero_le _
  | x :: l, h => by
    have h1 := szP_bd B l (fun y hy => h y (List.mem_cons_of_mem _ hy))
    have h2 := h x List.mem_cons_self
    simp only [szP, List.length_cons, Nat.add_mul, Nat.one_mul]
    omega
theorem rd38_mid (a : List S38) (x : S38) (b : List S38) : rd_T38 (a ++ x :: b) (a.length : Int) = x := by
  rw [rd_T38_at _ _ (by simp)]
  simp
theorem set38_mid (a : List S38) (x y : S38) (b : List S38) : (a ++ x :: b).set ((a.length : Int)).toNat y = (a ++ [y]) ++ b := by
  rw [Int.toNat_natCast, List.set_append_right _ _ (Nat.le_refl _), Nat.sub_self]
  simp
theorem markP_l (B : Nat) (hB : B ≤ 10000000) : ∀ (l a : List S38) (m : Int) (k : Nat), (∀ x ∈ l, x.f2.length ≤ B) → 0 ≤ m → m + szP l ≤ 50000000000000 → a.length + l.length ≤ 10000000 → l.length + B + 50 < k → laws_markPartS.l0 k (a ++ l) m a.length = some (m + szP l, a ++ mkP m l)
  | [], a, m, k, _, _, _, _, hk => by
    obtain ⟨k, rfl⟩ : ∃ m, k = m + 1 := ⟨k - 1, by omega⟩
    simp only [laws_markPartS.l0, List.append_nil]
    rw [if_neg (by omega)]
    simp [mkP, szP]
  | x :: l, a, m, k, hb, h0, hs, hl, hk => by
    obtain ⟨k, rfl⟩ : ∃ m, k = m + 1 := ⟨k - 1, by omega⟩
    have hx := hb x List.mem_cons_self
    simp only [szP] at hs
    rw [List.length_cons] at hl hk
    simp only [laws_markPartS.l0]
    rw [if_pos (by rw [List.length_append, List.length_cons]; omega), if_pos (by omega), rd38_mid, w64 (x := m + 1) (by omega) (by omega), w64 (x := m + 1 + 1) (by omega) (by omega), show m + 1 + 1 = m + 2 by omega, mt_eq (m + 1) (by omega) (by omega) k (by omega)]
    simp only [Option.bind_some]
    rw [markI x.f2 (m + 2) k (by omega) (by omega) (by omega)]
    simp only [Option.bind_some]
    rw [set38_mid, w64 (x := (a.length : Int) + 1) (by omega) (by omega)]
    have h := markP_l B hB l (a ++ [⟨m, mt (m + 1), upFrom (m + 2) x.f2.length⟩]) (m + 2 + (x.f2.length : Int)) k (fun y hy => hb y (List.mem_cons_of_mem _ hy)) (by omega) (by omega) (by rw [List.length_append, List.length_singleton]; omega) (by omega)
    rw [List.length_append, List.length_singleton] at h
    rw [show (a.length : Int) + 1 = ((a.length + 1 : Nat) : Int) by omega, h]
    simp only [mkP, szP, List.append_assoc, List.singleton_append]
    congr 2
    omega
theorem markP (B : Nat) (hB : B ≤ 10000000) (l : List S38) (m : Int) (k : Nat) (hb : ∀ x ∈ l, x.f2.length ≤ B) (h0 : 0 ≤ m) (hs : m + szP l ≤ 50000000000000) (hl : l.length ≤ 10000000) (hk : l.length + B + 50 < k) : laws_markPartS.f k l m = some (m + szP l, mkP m l) := by
  have h := markP_l B hB l [] m k hb h0 hs (by simpa using hl) hk
  unfold laws_markPartS.f
  simpa using h
theorem heldP_l (B : Nat) (hB : B ≤ 10000000) : ∀ (l a : List S38) (m : Int) (k : Nat), (∀ x ∈ l, x.f2.length ≤ B) → 0 ≤ m → m + szP l ≤ 50000000000000 → a.length + l.length ≤ 10000000 → l.length + B + 50 < k → laws_heldPartS.l0 k (a ++ mkP m l) m a.length = some (m + szP l)
  | [], a, m, k, _, _, _, _, hk => by
    obtain ⟨k, rfl⟩ : ∃ m, k = m + 1 := ⟨k - 1, by omega⟩
    simp only [laws_heldPartS.l0, mkP, List.append_nil]
    rw [if_neg (by omega)]
    simp [szP]
  | x :: l, a, m, k, hb, h0, hs, hl, hk => by
    obtain ⟨k, rfl⟩ : ∃ m, k = m + 1 := ⟨k - 1, by omega⟩
    have hx := hb x List.mem_cons_self
    simp only [szP] at hs
    rw [List.length_cons] at hl hk
    rw [show mkP m (x :: l) = ⟨m, mt (m + 1), upFrom (m + 2) x.f2.length⟩ :: mkP (m + 2 + (x.f2.length : Int)) l from rfl]
    simp only [laws_heldPartS.l0]
    rw [if_pos (by rw [List.length_append, List.length_cons]; omega), if_pos (by omega), rd38_mid, w64 (x := m + 1) (by omega) (by omega), w64 (x := m + 1 + 1) (by omega) (by omega), show m + 1 + 1 = m + 2 by omega, if_pos rfl, mt_eq (m + 1) (by omega) (by omega) k (by omega)]
    simp only [Option.bind_some]
    rw [if_pos trivial, heldI (m + 2) _ k (by omega) (by omega) (by omega)]
    simp only [Option.bind_some]
    rw [if_neg (by omega), w64 (x := (a.length : Int) + 1) (by omega) (by omega)]
    have h := heldP_l B hB l (a ++ [⟨m, mt (m + 1), upFrom (m + 2) x.f2.length⟩]) (m + 2 + (x.f2.length : Int)) k (fun y hy => hb y (List.mem_cons_of_mem _ hy)) (by omega) (by omega) (by rw [List.length_append, List.length_singleton]; omega) (by omega)
    rw [List.length_append, List.length_singleton, List.append_assoc, List.singleton_append] at h
    rw [show (a.length : Int) + 1 = ((a.length + 1 : Nat) : Int) by omega, h]
    simp only [szP]
    congr 1
    omega
theorem heldP (B : Nat) (hB : B ≤ 10000000) (l : List S38) (m : Int) (k : Nat) (hb : ∀ x ∈ l, x.f2.length ≤ B) (h0 : 0 ≤ m) (hs : m + szP l ≤ 50000000000000) (hl : l.length ≤ 10000000) (hk : l.length + B + 50 < k) : laws_heldPartS.f k (mkP m l) m = some (m + szP l) := by
  have h := heldP_l B hB l [] m k hb h0 hs (by simpa using hl) hk
  unfold laws_heldPartS.f
  simpa using h

theorem drop_P (l : List S38) (i : Nat) (h : i < l.length) : l.drop i = rd_T38 l i :: l.drop (i + 1) := by
  rw [rd_T38_at l i h]
  exact List.drop_eq_getElem_cons h
def ofKind (a : Int) (l : List S38) : List S38 := l.filter fun x => x.f0 == a
def partsR (l : List S38) (a : Int) : List S38 × Bool := if l.length ≤ 10 then (ofKind a l, true) else ([], false)
theorem spec_parts_l (a : Int) (l : List S38) (hn : l.length ≤ 10) (hb : ∀ x ∈ l, x.f2.length ≤ 1048576) (d : Nat) : ∀ (k i : Nat) (out : List S38), i + d = l.length → out.length ≤ i → d < k → spec_PartsOf.l0 k a out l l.length i = some (out ++ ofKind a (l.drop i), true) := by
  induction d with
  | zero =>
    intro k i out h ho hk
    obtain ⟨k, rfl⟩ : ∃ m, k = m + 1 := ⟨k - 1, by omega⟩
    simp only [spec_PartsOf.l0]
    rw [if_neg (by omega), List.drop_of_length_le (by omega)]
    simp [ofKind]
  | succ d ih =>
    intro k i out h ho hk
    obtain ⟨k, rfl⟩ : ∃ m, k = m + 1 := ⟨k - 1, by omega⟩
    have hx : (rd_T38 l i).f2.length ≤ 1048576 := by rw [rd_T38_at l i (by omega)]; exact hb _ (List.getElem_mem _)
    have hw : wrap64 ((i : Int) + 1) = ((i + 1 : Nat) : Int) := by rw [w64 (by omega) (by omega)]; omega
    simp only [spec_PartsOf.l0]
    rw [if_pos (by omega), if_pos (by omega), if_pos (by omega), drop_P l i (by omega), hw]
    generalize rd_T38 l i = x at hx
    by_cases e : x.f0 = a
    · unfold spec_l2Own.f
      rw [if_pos e]
      simp only [Option.bind_some, List.nil_append, List.length_nil]
      rw [if_pos (by omega)]
      simp only [Option.bind_some]
      rw [if_pos (by omega), ih k (i + 1) _ (by omega) (by rw [List.length_append, List.length_singleton]; omega) (by omega)]
      rw [show ofKind a (x :: l.drop (i + 1)) = x :: ofKind a (l.drop (i + 1)) by simp [ofKind, e], List.append_assoc]
      rfl
    · rw [if_neg e, ih k (i + 1) out (by omega) (by omega) (by omega)]
      simp [ofKind, e]
theorem impl_parts_l (a : Int) (l : List S38) (hn : l.length ≤ 10) (hb : ∀ x ∈ l, x.f2.length ≤ 1048576) (d : Nat) : ∀ (k i : Nat) (out : List S38), i + d = l.length → out.length ≤ i → d < k → impl_PartsOf.l0 k a out l l.length i = some (out ++ ofKind a (l.drop i), true) := by
  induction d with
  | zero =>
    intro k i out h ho hk
    obtain ⟨k, rfl⟩ : ∃ m, k = m + 1 := ⟨k - 1, by omega⟩
    simp only [impl_PartsOf.l0]
    rw [if_neg (by omega), List.drop_of_length_le (by omega)]
    simp [ofKind]
  | succ d ih =>
    intro k i out h ho hk
    obtain ⟨k, rfl⟩ : ∃ m, k = m + 1 := ⟨k - 1, by omega⟩
    have hx : (rd_T38 l i).f2.length ≤ 1048576 := by rw [rd_T38_at l i (by omega)]; exact hb _ (List.getElem_mem _)
    have hw : wrap64 ((i : Int) + 1) = ((i + 1 : Nat) : Int) := by rw [w64 (by omega) (by omega)]; omega
    simp only [impl_PartsOf.l0]
    rw [if_pos (by omega), if_pos (by omega), if_pos (by omega), drop_P l i (by omega), hw]
    generalize rd_T38 l i = x at hx
    by_cases e : x.f0 = a
    · unfold slices_Clone_int_int.f
      rw [if_pos e, if_pos (by omega)]
      simp only [Option.bind_some]
      rw [if_pos (by omega), ih k (i + 1) _ (by omega) (by rw [List.length_append, List.length_singleton]; omega) (by omega)]
      rw [show ofKind a (x :: l.drop (i + 1)) = x :: ofKind a (l.drop (i + 1)) by simp [ofKind, e], List.append_assoc]
      rfl
    · rw [if_neg e, ih k (i + 1) out (by omega) (by omega) (by omega)]
      simp [ofKind, e]
theorem spec_PartsOf_f (l : List S38) (a : Int) (k : Nat) (hb : ∀ x ∈ l, x.f2.length ≤ 1048576) (hk : 10 < k) : spec_PartsOf.f k l a = some (partsR l a) := by
  unfold spec_PartsOf.f partsR
  by_cases h : l.length ≤ 10
  · rw [if_neg (by omega), if_pos h]
    have e := spec_parts_l a l h hb l.length k 0 [] (by omega) (Nat.le_refl _) (by omega)
    simpa using e
  · rw [if_pos (by omega), if_neg h]
theorem impl_PartsOf_f (l : List S38) (a : Int) (k : Nat) (hb : ∀ x ∈ l, x.f2.length ≤ 1048576) (hk : 10 < k) : impl_PartsOf.f k l a = some (partsR l a) := by
  unfold impl_PartsOf.f partsR
  by_cases h : l.length ≤ 10
  · rw [if_neg (by omega), if_pos h]
    have e := impl_parts_l a l h hb l.length k 0 [] (by omega) (Nat.le_refl _) (by omega)
    simpa using e
  · rw [if_pos (by omega), if_neg h]
theorem FnExactPartsOf : laws_FnExactPartsOf.PureS := by
  intro l a ⟨hn, hall⟩ _
  have hl : ∀ x ∈ l, x.f1.size ≤ 140737488351232 ∧ x.f2.length ≤ 140737488351232 := by
    intro x hx
    obtain ⟨_, h1, h2, _⟩ := hall x hx
    exact ⟨h1, by omega⟩
  obtain ⟨K, hK⟩ : ∃ K, K = l.length + 3000000 := ⟨_, rfl⟩
  obtain ⟨s, hs, hd⟩ := szParts_any l K (by omega) hl (by omega)
  refine ⟨K, ?_⟩
  by_cases h0 : s < 0
  · unfold laws_FnExactPartsOf.f
    rw [hs]
    simp only [Option.bind_some]
    rw [if_pos h0]
  · have hb : ∀ x ∈ l, x.f2.length ≤ 1048576 := by
      rcases hd with hd | ⟨_, hd⟩
      · exact absurd hd h0
      · exact fun x hx => (hd x hx).2
    have hll : l.length ≤ 5864062014805 := by omega
    have hb2 : ∀ x ∈ l.map cvP, x.f2.length ≤ 1048576 := by
      intro x hx
      obtain ⟨y, hy, rfl⟩ := List.mem_map.1 hx
      exact hb y hy
    have hml : (l.map cvP).length = l.length := List.length_map _
    have hlen : l.length ≤ 1048576 := by
      refine Classical.byContradiction fun hc => h0 ?_
      unfold laws_szPartS.f at hs
      rw [w64 (by omega) (by omega), if_pos (by omega)] at hs
      have := Option.some.inj hs
      omega
    unfold laws_FnExactPartsOf.f
    rw [hs]
    simp only [Option.bind_some]
    rw [if_neg h0, toParts_eq l 1048576 K hll (by omega) hb (by omega)]
    simp only [Option.bind_some]
    rw [spec_PartsOf_f _ a K hb2 (by omega), impl_PartsOf_f _ a K hb2 (by omega)]
    obtain ⟨r, hr, hrl, hrb⟩ : ∃ r, partsR (l.map cvP) a = r ∧ r.1.length ≤ 10 ∧ ∀ x ∈ r.1, x.f2.length ≤ 1048576 := by
      refine ⟨_, rfl, ?_, ?_⟩
      · unfold partsR
        split
        · have := List.length_filter_le (fun x : S38 => x.f0 == a) (l.map cvP)
          simp only [ofKind]
          omega
        · simp
      · unfold partsR
        split
        · exact fun x hx => hb2 x (List.mem_filter.1 hx).1
        · exact fun x hx => by simp at hx
    rw [hr]
    have hz := szP_bd 1048576 r.1 hrb
    have hz2 : r.1.length * (2 + 1048576) ≤ 10 * (2 + 1048576) := Nat.mul_le_mul_right _ hrl
    have hy := szP_bd 1048576 (l.map cvP) hb2
    have hy2 : (l.map cvP).length * (2 + 1048576) ≤ 1048576 * (2 + 1048576) := Nat.mul_le_mul_right _ (by omega)
    simp only [Option.bind_some]
    rw [eqParts_refl r.1 1048576 K (by omega) (by omega) hrb (by omega)]
    simp only [Option.bind_some, if_true]
    rw [eqParts_refl _ 1048576 K (by omega) (by omega) hb2 (by omega)]
    simp only [Option.bind_some, if_true]
    rw [markP 1048576 (by omega) _ 1 K hb2 (by omega) (by omega) (by omega) (by omega)]
    simp only [Option.bind_some]
    rw [if_pos (by omega), markP 1048576 (by omega) r.1 1 K hrb (by omega) (by omega) (by omega) (by omega)]
    simp only [Option.bind_some]
    rw [heldP 1048576 (by omega) r.1 1 K hrb (by omega) (by omega) (by omega) (by omega)]
    simp only [Option.bind_some]
    rw [if_pos trivial, if_pos (by omega)]

end Go.Proofs.Ytajfpfmbmkmafaa.Pure
