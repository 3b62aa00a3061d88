/- FnExactAllSame answers true for each flood. No condition beyond the row's own bounds. -/
import Derived.Test.YtdbnjjpkpaifcaaSFnExactAllSame
namespace Go.Proofs.Ytdbnjjpkpaifcaa.Pure
open Go.RowKit Go.Proofs.Ytdbnjjpkpaifcaa.PFnExactAllSame Go.Proofs.YtdbnjjpkpaifcaaW.PrintWords Go.Proofs.YtdbnjjpkpaifcaaW.PrintLast
set_option linter.unusedVariables false
set_option linter.unusedSimpArgs false

-- w64
theorem w64 {x : Int} (h0 : -9223372036854775808 ≤ x) (h1 : x ≤ 9223372036854775807) : wrap64 x = x := by
  unfold wrap64
  omega
theorem tm {x y : Int} (h0 : 0 ≤ x) : Int.tmod x y = x % y := Int.tmod_eq_emod_of_nonneg h0
theorem wf64 {x : Int} (h : (Lit.int .i64 x).wf = true) : -9223372036854775808 ≤ x ∧ x ≤ 9223372036854775807 := by
  simp [Lit.wf, IntKind.min, IntKind.max, IntKind.signed, IntKind.bits] at h
  omega

-- helps
theorem set_take {α : Type} (m L : List α) (i : Nat) (hi : i < L.length) (hm : m.length = L.length) (ht : m.take i = L.take i) (v : α) (hv : L[i]? = some v) : (m.set i v).take (i + 1) = L.take (i + 1) := by
  rw [List.take_set, List.take_succ_eq_append_getElem (by omega), List.take_succ_eq_append_getElem hi, ht, List.set_append_right _ _ (by rw [List.length_take]; omega)]
  rw [List.length_take, show i - min i L.length = 0 by omega]
  rw [List.getElem?_eq_getElem hi] at hv
  rw [Option.some.inj hv]
  rfl
/-- From some number of rounds on: one number for a pair. -/
theorem ev_at {α : Type} {g : Nat → Option α} {r : α} (h : Ev g r) : ∃ K, ∀ k, K ≤ k → g k = some r := h
theorem ev_some {α : Type} {g : Nat → Option α} {r : α} (h : ∀ k, g k = some r) : Ev g r := ⟨0, fun k _ => h k⟩
theorem ev_ge {α : Type} {g : Nat → Option α} {r : α} (K : Nat) (h : ∀ k, K ≤ k → g k = some r) : Ev g r := ⟨K, h⟩

-- put
-- a number put to its place; the neighbours of a node, told twice
/-- A number put to its place, once. -/
def put : List Int → Int → List Int
  | [], n => [n]
  | x :: l, n => if x < n then x :: put l n else if x = n then x :: l else n :: x :: l
theorem put_mem (n y : Int) : ∀ l : List Int, y ∈ put l n ↔ y ∈ l ∨ y = n
  | [] => by simp [put]
  | x :: l => by
    unfold put
    split
    · rw [List.mem_cons, put_mem n y l, List.mem_cons]
      constructor
      · rintro (h | h | h)
        · exact .inl (.inl h)
        · exact .inl (.inr h)
        · exact .inr h
      · rintro ((h | h) | h)
        · exact .inl h
        · exact .inr (.inl h)
        · exact .inr (.inr h)
    · split
      · rename_i h
        subst h
        rw [List.mem_cons]
        exact ⟨fun h => .inl h, fun h => h.elim id .inl⟩
      · rw [List.mem_cons]
        exact ⟨fun h => h.elim .inr .inl, fun h => h.elim .inr .inl⟩
theorem put_up (n : Int) : ∀ l : List Int, l.Pairwise (· < ·) → (put l n).Pairwise (· < ·)
  | [], _ => by simp [put]
  | x :: l, h => by
    obtain ⟨h1, h2⟩ := List.pairwise_cons.1 h
    unfold put
    split
    · rename_i hx
      refine List.pairwise_cons.2 ⟨fun y hy => ?_, put_up n l h2⟩
      rcases (put_mem n y l).1 hy with hy | rfl
      · exact h1 y hy
      · exact hx
    · split
      · exact h
      · rename_i a b
        refine List.pairwise_cons.2 ⟨fun y hy => ?_, h⟩
        have : n < x := by omega
        rcases List.mem_cons.1 hy with rfl | hy
        · exact this
        · have := h1 y hy; omega
theorem up_ext : ∀ l m : List Int, l.Pairwise (· < ·) → m.Pairwise (· < ·) → (∀ x, x ∈ l ↔ x ∈ m) → l = m
  | [], [], _, _, _ => rfl
  | [], y :: m, _, _, h => by have := (h y).2 List.mem_cons_self; simp at this
  | x :: l, [], _, _, h => by have := (h x).1 List.mem_cons_self; simp at this
  | x :: l, y :: m, hl, hm, h => by
    obtain ⟨a1, a2⟩ := List.pairwise_cons.1 hl
    obtain ⟨b1, b2⟩ := List.pairwise_cons.1 hm
    have e : x = y := by
      rcases List.mem_cons.1 ((h x).1 List.mem_cons_self) with h1 | h1
      · exact h1
      · rcases List.mem_cons.1 ((h y).2 List.mem_cons_self) with h2 | h2
        · exact h2.symm
        · have := b1 x h1; have := a1 y h2; omega
    subst e
    refine congrArg (x :: ·) (up_ext l m a2 b2 fun z => ⟨fun hz => ?_, fun hz => ?_⟩)
    · rcases List.mem_cons.1 ((h z).1 (List.mem_cons_of_mem _ hz)) with h1 | h1
      · have := a1 z hz; omega
      · exact h1
    · rcases List.mem_cons.1 ((h z).2 (List.mem_cons_of_mem _ hz)) with h1 | h1
      · have := b1 z hz; omega
      · exact h1
/-- A link's end put in. -/
def nearS (a : Int) (o : List Int) (l : List Int) : List Int :=
  if rd l 1 = a then put (if rd l 0 = a then put o (rd l 1) else o) (rd l 0) else (if rd l 0 = a then put o (rd l 1) else o)
def nearL (a : Int) (ls : List (List Int)) : List Int := ls.foldl (nearS a) []
def rowB (a : Int) (ls : List (List Int)) (b : Int) : Bool := ls.any fun l => decide (rd l 0 = min a b) && decide (rd l 1 = max a b)
def rowL (n : Nat) (a : Int) (ls : List (List Int)) : List Int := ((List.range n).map fun b : Nat => (b : Int)).filter (rowB a ls)
theorem nearS_mem (a : Int) (o l : List Int) (y : Int) : y ∈ nearS a o l ↔ y ∈ o ∨ (rd l 0 = a ∧ y = rd l 1) ∨ (rd l 1 = a ∧ y = rd l 0) := by
  unfold nearS
  by_cases h0 : rd l 0 = a <;> by_cases h1 : rd l 1 = a <;> simp only [h0, h1, if_true, if_false, put_mem, true_and, false_and, or_false] <;> simp [or_assoc]
theorem near_fold (a : Int) (y : Int) : ∀ (ls : List (List Int)) (o : List Int), y ∈ ls.foldl (nearS a) o ↔ y ∈ o ∨ ∃ l ∈ ls, (rd l 0 = a ∧ y = rd l 1) ∨ (rd l 1 = a ∧ y = rd l 0)
  | [], o => by simp
  | l :: ls, o => by
    rw [List.foldl_cons, near_fold a y ls, nearS_mem]
    simp only [List.mem_cons, exists_eq_or_imp, or_assoc]
theorem near_up (a : Int) : ∀ (ls : List (List Int)) (o : List Int), o.Pairwise (· < ·) → (ls.foldl (nearS a) o).Pairwise (· < ·)
  | [], o, h => h
  | l :: ls, o, h => by
    rw [List.foldl_cons]
    refine near_up a ls _ ?_
    unfold nearS
    by_cases h0 : rd l 0 = a <;> by_cases h1 : rd l 1 = a <;> simp only [h0, h1, if_true, if_false] <;> first | exact put_up _ _ (put_up _ _ h) | exact put_up _ _ h | exact h
theorem range_up : ∀ n : Nat, ((List.range n).map fun b : Nat => (b : Int)).Pairwise (· < ·) := by
  intro n
  rw [List.pairwise_map]
  exact List.Pairwise.imp (fun h => by omega) List.pairwise_lt_range
theorem near_row (n : Nat) (a : Int) (ls : List (List Int)) (h : ∀ l ∈ ls, (0 ≤ rd l 0 ∧ rd l 0 < n) ∧ (0 ≤ rd l 1 ∧ rd l 1 < n) ∧ rd l 0 < rd l 1) : nearL a ls = rowL n a ls := by
  refine up_ext _ _ (near_up a ls [] List.Pairwise.nil) (List.Pairwise.filter _ (range_up n)) fun x => ?_
  unfold nearL rowL
  rw [near_fold, List.mem_filter]
  simp only [List.not_mem_nil, false_or, rowB, List.any_eq_true, Bool.and_eq_true, decide_eq_true_eq, List.mem_map, List.mem_range]
  constructor
  · rintro ⟨l, hl, h2⟩
    obtain ⟨h3, h4, h5⟩ := h l hl
    refine ⟨?_, l, hl, ?_⟩
    · rcases h2 with ⟨_, rfl⟩ | ⟨_, rfl⟩
      · exact ⟨(rd l 1).toNat, by omega, by omega⟩
      · exact ⟨(rd l 0).toNat, by omega, by omega⟩
    · omega
  · rintro ⟨_, l, hl, h2, h6⟩
    obtain ⟨h3, h4, h5⟩ := h l hl
    exact ⟨l, hl, by omega⟩

-- toints
theorem toI_l (l : List Int) (hn : l.length ≤ 35184372088832) (d : Nat) : ∀ (k i : Nat) (m : List Int), i + d = l.length → m.length = l.length → m.take i = l.take i → d < k →
    laws_toIntS.l0 k l m i = some l := by
  induction d with
  | zero =>
    intro k i m h hm ht hk
    obtain ⟨k, rfl⟩ : ∃ m, k = m + 1 := ⟨k - 1, by omega⟩
    simp only [laws_toIntS.l0]
    rw [if_neg (by omega)]
    obtain rfl : i = l.length := by omega
    rw [List.take_length, ← hm, List.take_length] at ht
    rw [ht]
  | succ d ih =>
    intro k i m h hm ht hk
    obtain ⟨k, rfl⟩ : ∃ m, k = m + 1 := ⟨k - 1, by omega⟩
    simp only [laws_toIntS.l0]
    rw [if_pos (by omega), if_pos (by omega), if_pos (by omega), w64 (by omega) (by omega), show ((i : Int) + 1) = ((i + 1 : Nat) : Int) by omega]
    refine ih k (i + 1) _ (by omega) (by rw [List.length_set]; exact hm) ?_ (by omega)
    unfold rd
    rw [Int.toNat_natCast, List.take_set, List.take_succ_eq_append_getElem (by omega), List.take_succ_eq_append_getElem (by omega), ht,
      List.set_append_right _ _ (by rw [List.length_take]; omega)]
    simp [List.length_take, List.getD_eq_getElem?_getD, show i < l.length by omega, show min i l.length = i by omega]
theorem toI (l : List Int) (k : Nat) (hn : l.length ≤ 35184372088832) (hk : l.length < k) : laws_toIntS.f k l = some l := by
  unfold laws_toIntS.f
  rw [if_pos (by omega), if_pos (by omega)]
  exact toI_l l hn l.length k 0 _ (by omega) (by simp) (by simp) hk

-- upfrom
/-- n, n + 1, .., in so many places. -/
def upFrom (m : Int) (n : Nat) : List Int := (List.range n).map fun i : Nat => m + i
theorem upFrom_len (m : Int) (n : Nat) : (upFrom m n).length = n := by simp [upFrom]
theorem rd_nat (l : List Int) (i : Nat) : rd l i = l.getD i 0 := by simp [rd]
theorem rd_upFrom (m : Int) (n i : Nat) (h : i < n) : rd (upFrom m n) i = m + i := by
  simp [rd, upFrom, h]

-- eqi
theorem eqI_l (a b : List Int) (hl : a.length = b.length) (hn : a.length ≤ 4611686018427387904) (d : Nat) : ∀ (k i : Nat), i + d = a.length → d < k →
    laws_eqIntS.l0 k a b i = some (decide (a.drop i = b.drop i)) := by
  induction d with
  | zero =>
    intro k i h hk
    obtain ⟨k, rfl⟩ : ∃ m, k = m + 1 := ⟨k - 1, by omega⟩
    simp only [laws_eqIntS.l0]
    rw [if_neg (by omega), List.drop_of_length_le (by omega), List.drop_of_length_le (by omega)]
    simp
  | succ d ih =>
    intro k i h hk
    obtain ⟨k, rfl⟩ : ∃ m, k = m + 1 := ⟨k - 1, by omega⟩
    have h1 := ih k (i + 1) (by omega) (by omega)
    simp only [laws_eqIntS.l0]
    rw [if_pos (by omega), if_pos (by omega), if_pos (by omega), rd_nat, rd_nat, w64 (by omega) (by omega)]
    have ea : a.drop i = a.getD i 0 :: a.drop (i + 1) := by
      rw [List.getD_eq_getElem?_getD, List.getElem?_eq_getElem (by omega)]
      exact List.drop_eq_getElem_cons (by omega)
    have eb : b.drop i = b.getD i 0 :: b.drop (i + 1) := by
      rw [List.getD_eq_getElem?_getD, List.getElem?_eq_getElem (by omega)]
      exact List.drop_eq_getElem_cons (by omega)
    by_cases e : a.getD i 0 = b.getD i 0
    · rw [if_pos e]
      rw [show ((i : Int) + 1) = ((i + 1 : Nat) : Int) by omega, h1, ea, eb, e]
      simp
    · rw [if_neg e, ea, eb, decide_eq_false (fun h => e (List.cons.inj h).1)]
theorem eqI (a b : List Int) (k : Nat) (hn : a.length ≤ 4611686018427387904) (hk : a.length < k) : laws_eqIntS.f k a b = some (decide (a = b)) := by
  unfold laws_eqIntS.f
  by_cases hl : a.length = b.length
  · rw [if_pos (by omega)]
    simpa using eqI_l a b hl hn a.length k 0 (by omega) hk
  · rw [if_neg (by omega)]
    have : a ≠ b := fun e => hl (by rw [e])
    simp [this]

-- intss0(rd_L1)
theorem rdL_at (l : List (List Int)) (i : Nat) (h : i < l.length) : rd_L1 l i = l[i] := by
  simp [rd_L1, List.getD_eq_getElem?_getD, List.getElem?_eq_getElem h]
theorem rdL_mid (a : List (List Int)) (x : List Int) (b : List (List Int)) : rd_L1 (a ++ x :: b) (a.length : Int) = x := by
  rw [rdL_at _ _ (by simp)]
  simp
theorem setL_mid (a : List (List Int)) (x y : List Int) (b : List (List Int)) : (a ++ x :: b).set ((a.length : Int)).toNat y = (a ++ [y]) ++ b := by
  rw [Int.toNat_natCast, List.set_append_right _ _ (Nat.le_refl _), Nat.sub_self]
  simp
theorem len_mid {α : Type} (a : List α) (x : α) (b : List α) : (a.length : Int) < ((a ++ x :: b).length : Int) := by
  rw [List.length_append, List.length_cons]; omega
theorem next_mid {α : Type} (a : List α) (x : α) (h : a.length ≤ 4611686018427387904) : wrap64 ((a.length : Int) + 1) = ((a ++ [x]).length : Int) := by
  rw [w64 (by omega) (by omega), List.length_append, List.length_singleton]; omega
theorem szSS_l : ∀ (l a : List (List Int)) (m : Int) (k : Nat), (∀ x ∈ l, x.length ≤ 140737488351232) → 0 ≤ m ∧ m ≤ 1048576 → (a ++ l).length ≤ 140737488351232 → l.length < k →
    ∃ r, laws_szIntSS.l0 k (a ++ l) m a.length = some r ∧ (r < 0 ∨ (0 ≤ r ∧ ∀ x ∈ l, x.length ≤ 1048576))
  | [], a, m, k, _, hm, _, hk => by
    obtain ⟨k, rfl⟩ : ∃ m, k = m + 1 := ⟨k - 1, by omega⟩
    simp only [laws_szIntSS.l0, List.append_nil]
    rw [if_neg (by omega)]
    exact ⟨m, rfl, Or.inr ⟨hm.1, fun x hx => absurd hx (List.not_mem_nil)⟩⟩
  | x :: l, a, m, k, hb, hm, hl, hk => by
    obtain ⟨k, rfl⟩ : ∃ m, k = m + 1 := ⟨k - 1, by omega⟩
    have hx := hb x List.mem_cons_self
    have ha : a.length ≤ 140737488351232 := by rw [List.length_append] at hl; omega
    rw [List.length_cons] at hk
    simp only [laws_szIntSS.l0]
    rw [if_pos (len_mid a x l), if_pos (by omega), rdL_mid, next_mid a x (by omega)]
    unfold laws_szIntS.f
    rw [w64 (by omega) (by omega)]
    by_cases h0 : m - (x.length : Int) < 0
    · rw [if_pos h0]
      exact ⟨-1, rfl, Or.inl (by omega)⟩
    · rw [if_neg h0]
      simp only [Option.bind_some]
      rw [if_neg h0]
      have h := szSS_l l (a ++ [x]) (m - (x.length : Int)) k (fun y hy => hb y (List.mem_cons_of_mem _ hy)) (by omega) (by rw [List.append_assoc, List.singleton_append]; exact hl) (by omega)
      rw [List.append_assoc, List.singleton_append] at h
      obtain ⟨r, hr, hd⟩ := h
      refine ⟨r, hr, ?_⟩
      rcases hd with hd | ⟨hd, hx2⟩
      · exact Or.inl hd
      · refine Or.inr ⟨hd, fun y hy => ?_⟩
        rcases List.mem_cons.1 hy with rfl | hy
        · omega
        · exact hx2 y hy
theorem szSS_any (l : List (List Int)) (m : Int) (k : Nat) (hm : 0 ≤ m ∧ m ≤ 1048576) (hn : l.length ≤ 140737488351232) (hl : ∀ x ∈ l, x.length ≤ 140737488351232) (hk : l.length < k) :
    ∃ r, laws_szIntSS.f k l m = some r ∧ (r < 0 ∨ (0 ≤ r ∧ l.length ≤ 1048576 ∧ ∀ x ∈ l, x.length ≤ 1048576)) := by
  unfold laws_szIntSS.f
  rw [w64 (by omega) (by omega)]
  by_cases h : m - (l.length : Int) < 0
  · rw [if_pos h]
    exact ⟨-1, rfl, Or.inl (by omega)⟩
  · rw [if_neg h]
    obtain ⟨r, hr, hd⟩ := szSS_l l [] (m - (l.length : Int)) k hl (by omega) hn hk
    refine ⟨r, hr, ?_⟩
    rcases hd with hd | ⟨hd, hx⟩
    · exact Or.inl hd
    · exact Or.inr ⟨hd, by omega, hx⟩
theorem toSS_l (B : Nat) (hB : B ≤ 35184372088832) : ∀ (l a m : List (List Int)) (k : Nat), (∀ x ∈ l, x.length ≤ B) → m.length = l.length → (a ++ l).length ≤ 140737488351232 → l.length + B + 1 < k →
    laws_toIntSS.l0 k (a ++ l) (a ++ m) a.length = some (a ++ l)
  | [], a, m, k, _, hm, _, hk => by
    obtain ⟨k, rfl⟩ : ∃ m, k = m + 1 := ⟨k - 1, by omega⟩
    obtain rfl := List.eq_nil_of_length_eq_zero hm
    simp only [laws_toIntSS.l0, List.append_nil]
    rw [if_neg (by omega)]
  | x :: l, a, [], k, _, hm, _, _ => by simp at hm
  | x :: l, a, y :: m, k, hb, hm, hl, hk => by
    obtain ⟨k, rfl⟩ : ∃ m, k = m + 1 := ⟨k - 1, by omega⟩
    have hx := hb x List.mem_cons_self
    have ha : a.length ≤ 140737488351232 := by rw [List.length_append] at hl; omega
    rw [List.length_cons] at hk
    simp only [laws_toIntSS.l0]
    rw [if_pos (len_mid a x l), if_pos (by omega), rdL_mid, toI x k (by omega) (by omega)]
    simp only [Option.bind_some]
    rw [if_pos (len_mid a y m), setL_mid, next_mid a x (by omega)]
    have h := toSS_l B hB l (a ++ [x]) m k (fun y hy => hb y (List.mem_cons_of_mem _ hy)) (by simpa using hm) (by rw [List.append_assoc, List.singleton_append]; exact hl) (by omega)
    rw [List.append_assoc a [x] l, List.singleton_append] at h
    exact h
theorem toSS (l : List (List Int)) (B k : Nat) (hn : l.length ≤ 11728124029610) (hB : B ≤ 35184372088832) (hb : ∀ x ∈ l, x.length ≤ B) (hk : l.length + B + 1 < k) : laws_toIntSS.f k l = some l := by
  unfold laws_toIntSS.f
  rw [if_pos (by omega), if_pos (by rw [Int.toNat_natCast]; exact hn)]
  have h := toSS_l B hB l [] (List.replicate ((l.length : Int)).toNat []) k hb (by simp) (by simp only [List.nil_append]; omega) hk
  exact h
theorem eqSS_l (B : Nat) (hB : B ≤ 4611686018427387904) : ∀ (l a : List (List Int)) (k : Nat), (∀ x ∈ l, x.length ≤ B) → (a ++ l).length ≤ 140737488351232 → l.length + B + 1 < k →
    laws_eqIntSS.l0 k (a ++ l) (a ++ l) a.length = some true
  | [], a, k, _, _, hk => by
    obtain ⟨k, rfl⟩ : ∃ m, k = m + 1 := ⟨k - 1, by omega⟩
    simp only [laws_eqIntSS.l0, List.append_nil]
    rw [if_neg (by omega)]
  | x :: l, a, k, hb, hl, hk => by
    obtain ⟨k, rfl⟩ : ∃ m, k = m + 1 := ⟨k - 1, by omega⟩
    have hx := hb x List.mem_cons_self
    have ha : a.length ≤ 140737488351232 := by rw [List.length_append] at hl; omega
    rw [List.length_cons] at hk
    simp only [laws_eqIntSS.l0]
    rw [if_pos (len_mid a x l), if_pos (by omega), if_pos (len_mid a x l), rdL_mid, eqI x x k (by omega) (by omega), next_mid a x (by omega)]
    simp only [Option.bind_some, decide_true, if_true]
    have h := eqSS_l B hB l (a ++ [x]) k (fun y hy => hb y (List.mem_cons_of_mem _ hy)) (by rw [List.append_assoc, List.singleton_append]; exact hl) (by omega)
    rw [List.append_assoc, List.singleton_append] at h
    exact h
theorem eqSS_refl (l : List (List Int)) (B k : Nat) (hn : l.length ≤ 140737488351232) (hB : B ≤ 4611686018427387904) (hb : ∀ x ∈ l, x.length ≤ B) (hk : l.length + B + 1 < k) : laws_eqIntSS.f k l l = some true := by
  unfold laws_eqIntSS.f
  rw [if_pos rfl]
  exact eqSS_l B hB l [] k hb hn hk
theorem szSS_le_l : ∀ (l a : List (List Int)) (m r : Int) (k : Nat), (∀ x ∈ l, x.length ≤ 140737488351232) → 0 ≤ m ∧ m ≤ 1048576 → (a ++ l).length ≤ 140737488351232 → l.length < k →
    laws_szIntSS.l0 k (a ++ l) m a.length = some r → r ≤ m
  | [], a, m, r, k, _, hm, _, hk, h => by
    obtain ⟨k, rfl⟩ : ∃ m, k = m + 1 := ⟨k - 1, by omega⟩
    rw [laws_szIntSS.l0, List.append_nil, if_neg (by omega)] at h
    have := Option.some.inj h
    omega
  | x :: l, a, m, r, k, hb, hm, hl, hk, h => by
    obtain ⟨k, rfl⟩ : ∃ m, k = m + 1 := ⟨k - 1, by omega⟩
    have hx := hb x List.mem_cons_self
    have ha : a.length ≤ 140737488351232 := by rw [List.length_append] at hl; omega
    rw [List.length_cons] at hk
    rw [laws_szIntSS.l0, if_pos (len_mid a x l), if_pos (by omega), rdL_mid, next_mid a x (by omega)] at h
    unfold laws_szIntS.f at h
    rw [w64 (by omega) (by omega)] at h
    by_cases h0 : m - (x.length : Int) < 0
    · rw [if_pos h0] at h
      simp only [Option.bind_some] at h
      rw [if_pos (by omega)] at h
      have := Option.some.inj h
      omega
    · rw [if_neg h0] at h
      simp only [Option.bind_some] at h
      rw [if_neg h0] at h
      have h2 := szSS_le_l l (a ++ [x]) (m - (x.length : Int)) r k (fun y hy => hb y (List.mem_cons_of_mem _ hy)) (by omega) (by rw [List.append_assoc, List.singleton_append]; exact hl) (by omega) (by rw [List.append_assoc a [x] l, List.singleton_append]; exact h)
      omega
theorem szSS_le (l : List (List Int)) (m r : Int) (k : Nat) (hm : 0 ≤ m ∧ m ≤ 1048576) (hn : l.length ≤ 140737488351232) (hl : ∀ x ∈ l, x.length ≤ 140737488351232) (hk : l.length < k) (h : laws_szIntSS.f k l m = some r) : r ≤ m := by
  unfold laws_szIntSS.f at h
  rw [w64 (by omega) (by omega)] at h
  by_cases h1 : m - (l.length : Int) < 0
  · rw [if_pos h1] at h
    have := Option.some.inj h
    omega
  · rw [if_neg h1] at h
    have := szSS_le_l l [] (m - (l.length : Int)) r k hl (by omega) hn hk h
    omega

-- inrange(spec_l1In)
theorem spec_l1In_eq (a lo hi : Int) : spec_l1In.f a lo hi = some (decide (lo ≤ a ∧ a ≤ hi)) := by
  unfold spec_l1In.f
  by_cases h : lo ≤ a
  · rw [if_pos (show a ≥ lo from h)]
    simp [h]
  · rw [if_neg (show ¬ a ≥ lo from h)]
    simp [h]

-- inrange(impl_in)
theorem impl_in_eq (a lo hi : Int) : impl_in.f a lo hi = some (decide (lo ≤ a ∧ a ≤ hi)) := by
  unfold impl_in.f
  by_cases h : lo ≤ a
  · rw [if_pos (show a ≥ lo from h)]
    simp [h]
  · rw [if_neg (show ¬ a ≥ lo from h)]
    simp [h]

-- flood1
-- the specification's l1Put, l6Near, l6Rows and the program's sides
theorem put_l : ∀ (l a : List Int) (n : Int) (k : Nat), (a ++ l).length ≤ 1000000000 → l.length + 1 < k →
    spec_l1Put.l0 k (a ++ l) n a.length = some (a ++ put l n)
  | [], a, n, k, hl, hk => by
    obtain ⟨k, rfl⟩ : ∃ m, k = m + 2 := ⟨k - 2, by omega⟩
    rw [List.append_nil] at hl ⊢
    rw [show k + 2 = (k + 1) + 1 from rfl]
    simp only [spec_l1Put.l0]
    rw [if_neg (by omega)]
    simp only [spec_l1Put.j1]
    rw [if_neg (by omega)]
    simp only [Option.bind_some, List.nil_append, List.length_nil]
    rw [if_pos (by omega), if_pos (by omega), Int.toNat_natCast, List.take_length, List.drop_length]
    rw [if_pos (by omega), if_pos (by omega)]
    rw [if_pos (by rw [List.length_append, List.length_singleton, List.length_nil]; omega)]
    simp [put]
  | x :: l, a, n, k, hl, hk => by
    obtain ⟨k, rfl⟩ : ∃ m, k = m + 2 := ⟨k - 2, by omega⟩
    have hl2 := hl
    rw [List.length_append, List.length_cons] at hl2
    rw [List.length_cons] at hk
    have hr : rd (a ++ x :: l) (a.length : Int) = x := by simp [rd]
    rw [show k + 2 = (k + 1) + 1 from rfl, spec_l1Put.l0]
    rw [if_pos (by rw [List.length_append, List.length_cons]; omega), if_pos (by omega), hr]
    unfold put
    by_cases h : x < n
    · rw [if_pos h, if_pos h, w64 (by omega) (by omega)]
      have h1 := put_l l (a ++ [x]) n (k + 1) (by rw [List.append_assoc, List.singleton_append]; exact hl) (by omega)
      rw [List.append_assoc, List.singleton_append, List.length_append, List.length_singleton] at h1
      rw [show (a.length : Int) + 1 = ((a.length + 1 : Nat) : Int) by omega, h1, List.append_assoc, List.singleton_append]
    · rw [if_neg h, if_neg h]
      simp only [spec_l1Put.j1]
      rw [if_pos (by rw [List.length_append, List.length_cons]; omega), if_pos (by omega), hr]
      by_cases e : x = n
      · rw [if_pos e, if_pos e]
      · rw [if_neg e, if_neg e]
        simp only [Option.bind_some, List.nil_append, List.length_nil]
        rw [if_pos (by rw [List.length_append, List.length_cons]; omega), Int.toNat_natCast, List.take_left, List.drop_left]
        rw [if_pos (by omega), if_pos (by omega), if_pos (by rw [List.length_append, List.length_singleton, List.length_cons]; omega)]
        simp
theorem put_eq (l : List Int) (n : Int) (k : Nat) (hl : l.length ≤ 1000000000) (hk : l.length + 1 < k) : spec_l1Put.f k l n = some (put l n) := put_l l [] n k hl hk
theorem put_len : ∀ (l : List Int) (n : Int), (put l n).length ≤ l.length + 1
  | [], n => by simp [put]
  | x :: l, n => by
    have := put_len l n
    unfold put
    split
    · simp only [List.length_cons]; omega
    · split <;> simp only [List.length_cons] <;> omega
theorem near_l (n : Int) : ∀ (ls b : List (List Int)) (o : List Int) (k : Nat), (∀ l ∈ ls, l.length = 2) → (b ++ ls).length ≤ 1000000 → o.length ≤ 2 * b.length → 2 * ls.length + 2 * (b ++ ls).length + 10 < k →
    spec_l6Near.l0 k n o (b ++ ls) (b ++ ls).length b.length = some (ls.foldl (nearS n) o)
  | [], b, o, k, _, _, _, hk => by
    obtain ⟨k, rfl⟩ : ∃ m, k = m + 1 := ⟨k - 1, by omega⟩
    simp only [spec_l6Near.l0, List.append_nil]
    rw [if_neg (by omega)]
    rfl
  | l :: ls, b, o, k, h2, hl, ho, hk => by
    obtain ⟨k, rfl⟩ : ∃ m, k = m + 2 := ⟨k - 2, by omega⟩
    have hx := h2 l List.mem_cons_self
    have hl2 := hl
    rw [List.length_append, List.length_cons] at hl2
    have hk2 := hk
    rw [List.length_append, List.length_cons] at hk2
    rw [List.foldl_cons]
    have go : ∀ o' : List Int, o'.length ≤ 2 * (b.length + 1) → spec_l6Near.l0 k n o' (b ++ l :: ls) (b ++ l :: ls).length (wrap64 ((b.length : Int) + 1)) = some (ls.foldl (nearS n) o') := by
      intro o' ho'
      have h := near_l n ls (b ++ [l]) o' k (fun y hy => h2 y (List.mem_cons_of_mem _ hy)) (by rw [List.append_assoc, List.singleton_append]; exact hl) (by rw [List.length_append, List.length_singleton]; omega) (by rw [List.append_assoc, List.singleton_append, List.length_append, List.length_cons]; omega)
      rw [List.append_assoc b [l] ls, List.singleton_append] at h
      rw [next_mid b l (by omega)]
      exact h
    have gj : ∀ o' : List Int, o'.length ≤ 2 * b.length + 1 → spec_l6Near.j1 (k + 1) n o' l (b ++ l :: ls) (b ++ l :: ls).length b.length = some (ls.foldl (nearS n) (if rd l 1 = n then put o' (rd l 0) else o')) := by
      intro o' ho'
      simp only [spec_l6Near.j1]
      rw [if_pos (by omega)]
      by_cases e : rd l 1 = n
      · have hp := put_len o' (rd l 0)
        rw [if_pos e, if_pos e, if_pos (by omega), put_eq o' _ k (by omega) (by omega)]
        simp only [Option.bind_some]
        exact go _ (by omega)
      · rw [if_neg e, if_neg e]
        exact go _ (by omega)
    rw [show k + 2 = (k + 1) + 1 from rfl]
    simp only [spec_l6Near.l0]
    rw [if_pos (len_mid b l ls), if_pos (by omega), if_pos (len_mid b l ls), rdL_mid, if_pos (by omega)]
    unfold nearS
    by_cases e : rd l 0 = n
    · have hp := put_len o (rd l 1)
      rw [if_pos e, if_pos (by omega), put_eq o _ (k + 1) (by omega) (by omega)]
      simp only [Option.bind_some, if_pos e]
      exact gj _ (by omega)
    · rw [if_neg e]
      simp only [if_neg e]
      exact gj _ (by omega)
theorem near_eq (ls : List (List Int)) (n : Int) (k : Nat) (h2 : ∀ l ∈ ls, l.length = 2) (hl : ls.length ≤ 1000000) (hk : 4 * ls.length + 10 < k) : spec_l6Near.f k ls n = some (nearL n ls) := near_l n ls [] [] k h2 hl (Nat.le_refl _) (by rw [List.nil_append]; omega)
/-! The rows. -/
def rowsL (n : Nat) (ls : List (List Int)) : Nat → Nat → List (List Int)
  | _, 0 => []
  | i, d + 1 => ((rowL n (i : Int) ls).map fun z => [(i : Int), z]) ++ rowsL n ls (i + 1) d
theorem rowL_len (n : Nat) (a : Int) (ls : List (List Int)) : (rowL n a ls).length ≤ n := by
  unfold rowL
  refine Nat.le_trans (List.length_filter_le _ _) ?_
  rw [List.length_map, List.length_range]
  exact Nat.le_refl _
theorem rows_in (n : Int) (ls s : List (List Int)) (a : Int) : ∀ (m b : List Int) (out : List (List Int)) (k : Nat), (b ++ m).length ≤ 1000000 → out.length + m.length ≤ 1000000 → m.length < k →
    spec_l6Rows.l1 k n ls out a (b ++ m) (b ++ m).length b.length = spec_l6Rows.l0 (k - 1 - m.length) n ls (out ++ m.map fun z => [a, z]) (wrap64 (a + 1))
  | [], b, out, k, hl, ho, hk => by
    obtain ⟨k, rfl⟩ : ∃ m, k = m + 1 := ⟨k - 1, by omega⟩
    rw [spec_l6Rows.l1, List.append_nil, if_neg (by omega)]
    simp
  | x :: m, b, out, k, hl, ho, hk => by
    obtain ⟨k, rfl⟩ : ∃ m, k = m + 1 := ⟨k - 1, by omega⟩
    rw [List.length_cons] at hk ho
    have hl2 := hl
    rw [List.length_append, List.length_cons] at hl2
    have hr : rd (b ++ x :: m) (b.length : Int) = x := by simp [rd]
    rw [spec_l6Rows.l1, if_pos (len_mid b x m), if_pos (by omega), if_pos (len_mid b x m), if_pos (by omega), hr, next_mid b x (by omega)]
    have h := rows_in n ls s a m (b ++ [x]) (out ++ [[a, x]]) k (by rw [List.append_assoc, List.singleton_append]; exact hl) (by rw [List.length_append, List.length_singleton]; omega) (by omega)
    rw [List.append_assoc b [x] m, List.singleton_append] at h
    rw [h, show k + 1 - 1 - (x :: m).length = k - 1 - m.length by rw [List.length_cons]; omega]
    simp
theorem rows_l (n : Nat) (hn : n ≤ 6) (ls : List (List Int)) (h2 : ∀ l ∈ ls, l.length = 2) (hl : ls.length ≤ 15) (hin : ∀ l ∈ ls, (0 ≤ rd l 0 ∧ rd l 0 < n) ∧ (0 ≤ rd l 1 ∧ rd l 1 < n) ∧ rd l 0 < rd l 1) :
    ∀ (d i : Nat) (out : List (List Int)) (k : Nat), i + d = n → out.length ≤ 6 * i → 10 * d + 100 < k → spec_l6Rows.l0 k n ls out i = some (out ++ rowsL n ls i d)
  | 0, i, out, k, hd, ho, hk => by
    obtain ⟨k, rfl⟩ : ∃ m, k = m + 1 := ⟨k - 1, by omega⟩
    rw [spec_l6Rows.l0, if_neg (by omega)]
    simp [rowsL]
  | d + 1, i, out, k, hd, ho, hk => by
    obtain ⟨k, rfl⟩ : ∃ m, k = m + 1 := ⟨k - 1, by omega⟩
    have hr := rowL_len n (i : Int) ls
    rw [spec_l6Rows.l0, if_pos (by omega), near_eq ls i k h2 (by omega) (by omega)]
    simp only [Option.bind_some]
    rw [near_row n i ls hin]
    have h := rows_in n ls ls i (rowL n i ls) [] out k (by rw [List.nil_append]; omega) (by omega) (by omega)
    rw [List.nil_append] at h
    refine h.trans ?_
    rw [w64 (by omega) (by omega), show (i : Int) + 1 = ((i + 1 : Nat) : Int) by omega]
    rw [rows_l n hn ls h2 hl hin d (i + 1) _ _ (by omega) (by rw [List.length_append, List.length_map]; omega) (by omega)]
    simp [rowsL]
theorem rows_eq (n : Nat) (hn : n ≤ 6) (ls : List (List Int)) (h2 : ∀ l ∈ ls, l.length = 2) (hl : ls.length ≤ 15) (hin : ∀ l ∈ ls, (0 ≤ rd l 0 ∧ rd l 0 < n) ∧ (0 ≤ rd l 1 ∧ rd l 1 < n) ∧ rd l 0 < rd l 1) (k : Nat) (hk : 200 < k) :
    spec_l6Rows.f k n ls = some (rowsL n ls 0 n) := by
  have h := rows_l n hn ls h2 hl hin n 0 [] k (by omega) (Nat.zero_le _) (by omega)
  exact h
/-! The same by the program's sides. -/
theorem lnk_row (a b : Int) (l : List Int) : lnk a b l = (decide (rd l 0 = min a b) && decide (rd l 1 = max a b)) := by
  unfold lnk mn mx
  rw [show min a b = if b < a then b else a by rw [Int.min_def]; split <;> split <;> omega, show max a b = if a < b then b else a by rw [Int.max_def]; split <;> split <;> omega]
  rfl
theorem sIn_row (ls : List (List Int)) (a : Int) : ∀ (d b : Nat), (sIn ls a b d).map (fun s => [s.f0, s.f1]) = ((((List.range' b d).map fun z : Nat => (z : Int)).filter (rowB a ls))).map fun z => [a, z]
  | 0, b => rfl
  | d + 1, b => by
    rw [List.range'_succ, List.map_cons, List.filter_cons]
    unfold sIn
    rw [List.map_append, sIn_row ls a d (b + 1)]
    have e : ls.any (lnk a (b : Int)) = rowB a ls b := by
      unfold rowB
      congr 1
      funext l
      exact lnk_row a b l
    rw [e]
    cases rowB a ls b <;> simp
theorem sOut_rows (ls : List (List Int)) (n : Nat) : ∀ (d a : Nat), (sOut ls n a d).map (fun s => [s.f0, s.f1]) = rowsL n ls a d
  | 0, a => rfl
  | d + 1, a => by
    unfold sOut rowsL
    rw [List.map_append, sOut_rows ls n d (a + 1), sIn_row]
    unfold rowL
    rw [List.range_eq_range']

-- allin(spec_l1All;spec_l1In)
theorem spec_l1All_l (lo hi : Int) (l : List Int) (hn : l.length ≤ 4611686018427387904) (d : Nat) : ∀ (k i : Nat), i + d = l.length → d < k →
    spec_l1All.l0 k lo hi l l.length i = some ((l.drop i).all fun x => decide (lo ≤ x ∧ x ≤ hi)) := by
  induction d with
  | zero =>
    intro k i h hk
    obtain ⟨k, rfl⟩ : ∃ m, k = m + 1 := ⟨k - 1, by omega⟩
    simp only [spec_l1All.l0]
    rw [if_neg (by omega), List.drop_of_length_le (by omega)]
    rfl
  | succ d ih =>
    intro k i h hk
    obtain ⟨k, rfl⟩ : ∃ m, k = m + 1 := ⟨k - 1, by omega⟩
    have h1 := ih k (i + 1) (by omega) (by omega)
    have ea : l.drop i = rd l i :: l.drop (i + 1) := by
      unfold rd
      rw [Int.toNat_natCast, List.getD_eq_getElem?_getD, List.getElem?_eq_getElem (by omega)]
      exact List.drop_eq_getElem_cons (by omega)
    simp only [spec_l1All.l0]
    rw [if_pos (by omega), if_pos (by omega), if_pos (by omega), spec_l1In_eq, ea, List.all_cons]
    simp only [Option.bind_some]
    by_cases e : lo ≤ rd l i ∧ rd l i ≤ hi
    · rw [decide_eq_true e]
      simp only [if_true, Bool.true_and]
      rw [w64 (by omega) (by omega), show ((i : Int) + 1) = ((i + 1 : Nat) : Int) by omega]
      exact h1
    · rw [decide_eq_false e]
      simp
theorem spec_l1All_eq (l : List Int) (lo hi : Int) (k : Nat) (hn : l.length ≤ 4611686018427387904) (hk : l.length < k) : spec_l1All.f k l lo hi = some (l.all fun x => decide (lo ≤ x ∧ x ≤ hi)) := by
  have h := spec_l1All_l lo hi l hn l.length k 0 (by omega) hk
  unfold spec_l1All.f
  simpa using h

-- allin(impl_allIn;impl_in)
theorem impl_allIn_l (lo hi : Int) (l : List Int) (hn : l.length ≤ 4611686018427387904) (d : Nat) : ∀ (k i : Nat), i + d = l.length → d < k →
    impl_allIn.l0 k lo hi l l.length i = some ((l.drop i).all fun x => decide (lo ≤ x ∧ x ≤ hi)) := by
  induction d with
  | zero =>
    intro k i h hk
    obtain ⟨k, rfl⟩ : ∃ m, k = m + 1 := ⟨k - 1, by omega⟩
    simp only [impl_allIn.l0]
    rw [if_neg (by omega), List.drop_of_length_le (by omega)]
    rfl
  | succ d ih =>
    intro k i h hk
    obtain ⟨k, rfl⟩ : ∃ m, k = m + 1 := ⟨k - 1, by omega⟩
    have h1 := ih k (i + 1) (by omega) (by omega)
    have ea : l.drop i = rd l i :: l.drop (i + 1) := by
      unfold rd
      rw [Int.toNat_natCast, List.getD_eq_getElem?_getD, List.getElem?_eq_getElem (by omega)]
      exact List.drop_eq_getElem_cons (by omega)
    simp only [impl_allIn.l0]
    rw [if_pos (by omega), if_pos (by omega), if_pos (by omega), impl_in_eq, ea, List.all_cons]
    simp only [Option.bind_some]
    by_cases e : lo ≤ rd l i ∧ rd l i ≤ hi
    · rw [decide_eq_true e]
      simp only [if_true, Bool.true_and]
      rw [w64 (by omega) (by omega), show ((i : Int) + 1) = ((i + 1 : Nat) : Int) by omega]
      exact h1
    · rw [decide_eq_false e]
      simp
theorem impl_allIn_eq (l : List Int) (lo hi : Int) (k : Nat) (hn : l.length ≤ 4611686018427387904) (hk : l.length < k) : impl_allIn.f k l lo hi = some (l.all fun x => decide (lo ≤ x ∧ x ≤ hi)) := by
  have h := impl_allIn_l lo hi l hn l.length k 0 (by omega) hk
  unfold impl_allIn.f
  simpa using h

-- flood2
-- both GoodFlood functions as one truth
def rowOk (n : Int) (most : Int) (r : List Int) : Bool := decide ((r.length : Int) = n) && r.all fun x => decide (0 ≤ x ∧ x ≤ most)
def letOk (n : Int) (rows : List (List Int)) (x : S61) : Bool := rows.any (fun r => decide (rd r 0 = x.f0) && decide (rd r 1 = x.f1)) && (decide (0 ≤ x.f2.f0 ∧ x.f2.f0 ≤ wrap64 (n - 1)) && decide (1 ≤ x.f2.f1 ∧ x.f2.f1 ≤ 60))
def goodF (l0 l1 l2 : List (List Int)) (l3 : List S61) : Bool :=
  linksB (l1.length : Int) l0 && (decide (l2.length = (rowsL l1.length l0 0 l1.length).length) && (decide (l3.length ≤ 40) && (l1.all (rowOk (l1.length : Int) 60) && (l2.all (rowOk (l1.length : Int) 1) && l3.all (letOk (l1.length : Int) (rowsL l1.length l0 0 l1.length))))))
theorem rowsL_two (n : Nat) (ls : List (List Int)) : ∀ (d i : Nat), ∀ r ∈ rowsL n ls i d, r.length = 2
  | 0, i, r, h => by simp [rowsL] at h
  | d + 1, i, r, h => by
    unfold rowsL at h
    rcases List.mem_append.1 h with h | h
    · obtain ⟨z, _, rfl⟩ := List.mem_map.1 h
      rfl
    · exact rowsL_two n ls d (i + 1) r h
theorem rowsL_len (n : Nat) (ls : List (List Int)) : ∀ (d i : Nat), (rowsL n ls i d).length ≤ d * n
  | 0, i => by simp [rowsL]
  | d + 1, i => by
    unfold rowsL
    have h1 := rowsL_len n ls d (i + 1)
    have h2 := rowL_len n (i : Int) ls
    rw [List.length_append, List.length_map, Nat.add_mul, Nat.one_mul]
    omega
theorem rowIdx_l (a b : Int) : ∀ (l p : List (List Int)) (k : Nat), (∀ r ∈ l, r.length = 2) → (p ++ l).length ≤ 1000000 → l.length < k →
    ∃ v, spec_l6Row.l0 k a b (p ++ l) (p ++ l).length p.length = some v ∧ decide (v < 0) = !(l.any fun r => decide (rd r 0 = a) && decide (rd r 1 = b))
  | [], p, k, _, _, hk => by
    obtain ⟨k, rfl⟩ : ∃ m, k = m + 1 := ⟨k - 1, by omega⟩
    rw [spec_l6Row.l0, List.append_nil, if_neg (by omega)]
    exact ⟨-1, rfl, rfl⟩
  | x :: l, p, k, h2, hl, hk => by
    obtain ⟨k, rfl⟩ : ∃ m, k = m + 1 := ⟨k - 1, by omega⟩
    rw [List.length_cons] at hk
    have hl2 := hl
    rw [List.length_append, List.length_cons] at hl2
    have hx := h2 x List.mem_cons_self
    obtain ⟨v, hv, hd⟩ := rowIdx_l a b l (p ++ [x]) k (fun r hr => h2 r (List.mem_cons_of_mem _ hr)) (by rw [List.append_assoc, List.singleton_append]; exact hl) (by omega)
    rw [List.append_assoc, List.singleton_append] at hv
    rw [spec_l6Row.l0, if_pos (len_mid p x l), if_pos (by omega), if_pos (len_mid p x l), rdL_mid, if_pos (by omega), next_mid p x (by omega)]
    rw [List.any_cons]
    by_cases e : rd x 0 = a
    · rw [if_pos e, if_pos (by omega), decide_eq_true e, Bool.true_and]
      by_cases e2 : rd x 1 = b
      · rw [if_pos e2, decide_eq_true e2]
        exact ⟨p.length, rfl, by rw [decide_eq_false (by omega)]; rfl⟩
      · rw [if_neg e2, decide_eq_false e2, Bool.false_or]
        exact ⟨v, hv, hd⟩
    · rw [if_neg e, decide_eq_false e, Bool.false_and, Bool.false_or]
      exact ⟨v, hv, hd⟩
theorem allRows_l (n most : Int) (l0 l1 l2 : List (List Int)) (l3 : List S61) (B : Nat) (hB : B ≤ 4611686018427387904) : True := trivial
theorem specK_l (m : Int) (l0 l1 l2 : List (List Int)) (l3 : List S61) (B : Nat) (hB : B ≤ 1048576) : ∀ (l p : List (List Int)) (k : Nat), (∀ r ∈ l, r.length ≤ B) → (p ++ l).length ≤ 10000000 → l.length + B + 10 < k →
    spec_GoodFlood.l0 k m (p ++ l) (p ++ l).length p.length l0 l1 l2 l3 = if l.all (rowOk m 60) = true then spec_GoodFlood.l1 (k - 1 - l.length) m l2 l2.length 0 l0 l1 l2 l3 else some false
  | [], p, k, _, _, hk => by
    obtain ⟨k, rfl⟩ : ∃ m, k = m + 1 := ⟨k - 1, by omega⟩
    rw [spec_GoodFlood.l0, List.append_nil, if_neg (by omega)]
    simp
  | x :: l, p, k, hb, hl, hk => by
    obtain ⟨k, rfl⟩ : ∃ m, k = m + 1 := ⟨k - 1, by omega⟩
    rw [List.length_cons] at hk
    have hl2 := hl
    rw [List.length_append, List.length_cons] at hl2
    have hx := hb x List.mem_cons_self
    rw [spec_GoodFlood.l0, if_pos (len_mid p x l), if_pos (by omega), if_pos (len_mid p x l), rdL_mid, next_mid p x (by omega), List.all_cons]
    have h := specK_l m l0 l1 l2 l3 B hB l (p ++ [x]) k (fun r hr => hb r (List.mem_cons_of_mem _ hr)) (by rw [List.append_assoc, List.singleton_append]; exact hl) (by omega)
    rw [List.append_assoc p [x] l, List.singleton_append] at h
    unfold rowOk
    by_cases e : (x.length : Int) = m
    · rw [if_pos e, decide_eq_true e, Bool.true_and, spec_l1All_eq x 0 60 k (by omega) (by omega)]
      simp only [Option.bind_some]
      cases x.all fun x => decide (0 ≤ x ∧ x ≤ 60)
      · simp
      · rw [if_pos rfl, Bool.true_and, h, show k + 1 - 1 - (x :: l).length = k - 1 - l.length by rw [List.length_cons]; omega]
        rfl
    · rw [if_neg e, decide_eq_false e]
      simp
theorem specO_l (m : Int) (l0 l1 l2 : List (List Int)) (l3 : List S61) (B : Nat) (hB : B ≤ 1048576) : ∀ (l p : List (List Int)) (k : Nat), (∀ r ∈ l, r.length ≤ B) → (p ++ l).length ≤ 10000000 → l.length + B + 10 < k →
    spec_GoodFlood.l1 k m (p ++ l) (p ++ l).length p.length l0 l1 l2 l3 = if l.all (rowOk m 1) = true then spec_GoodFlood.l2 (k - 1 - l.length) m l3 l3.length 0 l0 l1 l2 l3 else some false
  | [], p, k, _, _, hk => by
    obtain ⟨k, rfl⟩ : ∃ m, k = m + 1 := ⟨k - 1, by omega⟩
    rw [spec_GoodFlood.l1, List.append_nil, if_neg (by omega)]
    simp
  | x :: l, p, k, hb, hl, hk => by
    obtain ⟨k, rfl⟩ : ∃ m, k = m + 1 := ⟨k - 1, by omega⟩
    rw [List.length_cons] at hk
    have hl2 := hl
    rw [List.length_append, List.length_cons] at hl2
    have hx := hb x List.mem_cons_self
    rw [spec_GoodFlood.l1, if_pos (len_mid p x l), if_pos (by omega), if_pos (len_mid p x l), rdL_mid, next_mid p x (by omega), List.all_cons]
    have h := specO_l m l0 l1 l2 l3 B hB l (p ++ [x]) k (fun r hr => hb r (List.mem_cons_of_mem _ hr)) (by rw [List.append_assoc, List.singleton_append]; exact hl) (by omega)
    rw [List.append_assoc p [x] l, List.singleton_append] at h
    unfold rowOk
    by_cases e : (x.length : Int) = m
    · rw [if_pos e, decide_eq_true e, Bool.true_and, spec_l1All_eq x 0 1 k (by omega) (by omega)]
      simp only [Option.bind_some]
      cases x.all fun x => decide (0 ≤ x ∧ x ≤ 1)
      · simp
      · rw [if_pos rfl, Bool.true_and, h, show k + 1 - 1 - (x :: l).length = k - 1 - l.length by rw [List.length_cons]; omega]
        rfl
    · rw [if_neg e, decide_eq_false e]
      simp

-- flood3
theorem rd61_mid (a : List S61) (x : S61) (b : List S61) : rd_T61 (a ++ x :: b) (a.length : Int) = x := by
  simp [rd_T61]
theorem rd69_mid (a : List S69) (x : S69) (b : List S69) : rd_T69 (a ++ x :: b) (a.length : Int) = x := by
  simp [rd_T69]
theorem specL_l (n : Nat) (hn : n ≤ 1000000) (R l0 l1 l2 : List (List Int)) (l3 : List S61) (h1 : l1.length = n) (hR : ∀ k, 200 < k → spec_l6Rows.f k (l1.length : Int) l0 = some R) (hR2 : ∀ r ∈ R, r.length = 2) (hRl : R.length ≤ 36) :
    ∀ (l p : List S61) (k : Nat), (p ++ l).length ≤ 10000000 → 2 * l.length + 300 < k →
    spec_GoodFlood.l2 k (n : Int) (p ++ l) (p ++ l).length p.length l0 l1 l2 l3 = some (l.all (letOk (n : Int) R))
  | [], p, k, _, hk => by
    obtain ⟨k, rfl⟩ : ∃ m, k = m + 1 := ⟨k - 1, by omega⟩
    rw [spec_GoodFlood.l2, List.append_nil, if_neg (by omega)]
    rfl
  | x :: l, p, k, hl, hk => by
    obtain ⟨k, rfl⟩ : ∃ m, k = m + 2 := ⟨k - 2, by omega⟩
    rw [List.length_cons] at hk
    have hl2 := hl
    rw [List.length_append, List.length_cons] at hl2
    rw [show k + 2 = (k + 1) + 1 from rfl, spec_GoodFlood.l2, if_pos (len_mid p x l), if_pos (by omega), if_pos (len_mid p x l), rd61_mid]
    unfold spec_l6Row.f
    rw [hR (k + 1) (by omega)]
    obtain ⟨v, hv, hd⟩ := rowIdx_l x.f0 x.f1 R [] (k + 1) hR2 (by rw [List.nil_append]; omega) (by omega)
    rw [List.nil_append] at hv
    have hv2 : spec_l6Row.l0 (k + 1) x.f0 x.f1 R R.length 0 = some v := hv
    simp only [Option.bind_some]
    rw [hv2]
    simp only [Option.bind_some]
    have h := specL_l n hn R l0 l1 l2 l3 h1 hR hR2 hRl l (p ++ [x]) k (by rw [List.append_assoc, List.singleton_append]; exact hl) (by omega)
    rw [List.append_assoc p [x] l, List.singleton_append] at h
    have hj : ∀ b : Bool, spec_GoodFlood.j4 (k + 1) (n : Int) (p ++ x :: l) (p ++ x :: l).length p.length b l0 l1 l2 l3 = some (!b && l.all (letOk (n : Int) R)) := by
      intro b
      rw [spec_GoodFlood.j4, next_mid p x (by omega), h]
      cases b <;> rfl
    rw [List.all_cons, hj, spec_l1In_eq, spec_l1In_eq]
    unfold letOk
    by_cases e : v < 0
    · rw [if_pos e]
      rw [decide_eq_true e] at hd
      have hd2 : (R.any fun r => decide (rd r 0 = x.f0) && decide (rd r 1 = x.f1)) = false := by
        cases h : (R.any fun r => decide (rd r 0 = x.f0) && decide (rd r 1 = x.f1))
        · rfl
        · rw [h] at hd; cases hd
      rw [hd2]
      rfl
    · rw [if_neg e]
      rw [decide_eq_false e] at hd
      have hd2 : (R.any fun r => decide (rd r 0 = x.f0) && decide (rd r 1 = x.f1)) = true := by
        cases h : (R.any fun r => decide (rd r 0 = x.f0) && decide (rd r 1 = x.f1))
        · rw [h] at hd; cases hd
        · rfl
      rw [hd2]
      simp only [Option.bind_some]
      cases decide (0 ≤ x.f2.f0 ∧ x.f2.f0 ≤ wrap64 ((n : Int) - 1))
      · rw [if_neg (by decide)]; rfl
      · rw [if_pos rfl, hj]
        cases decide (1 ≤ x.f2.f1 ∧ x.f2.f1 ≤ 60) <;> rfl
theorem sideIdx_l (a b : Int) : ∀ (l p : List S69) (k : Nat), (p ++ l).length ≤ 1000000 → l.length < k →
    ∃ v, impl_side_60.l0 k (p ++ l) (p ++ l).length p.length a b = some v ∧ decide (v ≥ 0) = l.any fun s => decide (s.f0 = a) && decide (s.f1 = b)
  | [], p, k, _, hk => by
    obtain ⟨k, rfl⟩ : ∃ m, k = m + 1 := ⟨k - 1, by omega⟩
    rw [impl_side_60.l0, List.append_nil, if_neg (by omega)]
    exact ⟨-1, rfl, rfl⟩
  | x :: l, p, k, hl, hk => by
    obtain ⟨k, rfl⟩ : ∃ m, k = m + 1 := ⟨k - 1, by omega⟩
    rw [List.length_cons] at hk
    have hl2 := hl
    rw [List.length_append, List.length_cons] at hl2
    obtain ⟨v, hv, hd⟩ := sideIdx_l a b l (p ++ [x]) k (by rw [List.append_assoc, List.singleton_append]; exact hl) (by omega)
    rw [List.append_assoc, List.singleton_append] at hv
    rw [impl_side_60.l0, if_pos (len_mid p x l), if_pos (by omega), if_pos (len_mid p x l), rd69_mid, next_mid p x (by omega), List.any_cons]
    have e : (a == x.f0 && b == x.f1) = (decide (x.f0 = a) && decide (x.f1 = b)) := by
      rw [Bool.eq_iff_iff]
      simp only [Bool.and_eq_true, beq_iff_eq, decide_eq_true_eq]
      exact ⟨fun h => ⟨h.1.symm, h.2.symm⟩, fun h => ⟨h.1.symm, h.2.symm⟩⟩
    rw [e]
    cases decide (x.f0 = a) && decide (x.f1 = b)
    · rw [if_neg (by decide), Bool.false_or]
      exact ⟨v, hv, hd⟩
    · rw [if_pos rfl, Bool.true_or]
      exact ⟨p.length, rfl, decide_eq_true (by omega)⟩
def letOkI (n : Int) (T : List S69) (x : S61) : Bool := T.any (fun s => decide (s.f0 = x.f0) && decide (s.f1 = x.f1)) && (decide (0 ≤ x.f2.f0 ∧ x.f2.f0 ≤ wrap64 (n - 1)) && decide (1 ≤ x.f2.f1 ∧ x.f2.f1 ≤ 60))
theorem implF_l (m : Int) (T : List S69) (hT : T.length ≤ 1000) : ∀ (l p : List S61) (k : Nat), (p ++ l).length ≤ 10000000 → 2 * l.length + 1100 < k →
    impl_GoodFlood.l0 k m T (p ++ l) (p ++ l).length p.length = some (l.all (letOkI m T))
  | [], p, k, _, hk => by
    obtain ⟨k, rfl⟩ : ∃ m, k = m + 1 := ⟨k - 1, by omega⟩
    rw [impl_GoodFlood.l0, List.append_nil, if_neg (by omega)]
    rfl
  | x :: l, p, k, hl, hk => by
    obtain ⟨k, rfl⟩ : ∃ m, k = m + 2 := ⟨k - 2, by omega⟩
    rw [List.length_cons] at hk
    have hl2 := hl
    rw [List.length_append, List.length_cons] at hl2
    rw [show k + 2 = (k + 1) + 1 from rfl, impl_GoodFlood.l0, if_pos (len_mid p x l), if_pos (by omega), if_pos (len_mid p x l), rd61_mid]
    obtain ⟨v, hv, hd⟩ := sideIdx_l x.f0 x.f1 T [] (k + 1) (by rw [List.nil_append]; omega) (by omega)
    rw [List.nil_append] at hv
    have hv2 : impl_side_60.f (k + 1) T x.f0 x.f1 = some v := hv
    have h := implF_l m T hT l (p ++ [x]) k (by rw [List.append_assoc, List.singleton_append]; exact hl) (by omega)
    rw [List.append_assoc p [x] l, List.singleton_append] at h
    have hj : ∀ b : Bool, impl_GoodFlood.j2 (k + 1) m T (p ++ x :: l) (p ++ x :: l).length p.length b = some (!b && l.all (letOkI m T)) := by
      intro b
      rw [impl_GoodFlood.j2, next_mid p x (by omega), h]
      cases b <;> rfl
    unfold impl_side_48.f
    rw [hv2]
    simp only [Option.bind_some]
    rw [hd, List.all_cons, hj, impl_in_eq, impl_in_eq]
    unfold letOkI
    cases T.any fun s => decide (s.f0 = x.f0) && decide (s.f1 = x.f1)
    · rw [if_neg (by decide)]; rfl
    · rw [if_pos rfl]
      simp only [Option.bind_some]
      cases decide (0 ≤ x.f2.f0 ∧ x.f2.f0 ≤ wrap64 (m - 1))
      · rw [if_neg (by decide)]; rfl
      · rw [if_pos rfl, hj]
        cases decide (1 ≤ x.f2.f1 ∧ x.f2.f1 ≤ 60) <;> rfl
theorem goodRows_l (x0 : List (List Int)) (a m most : Int) (B : Nat) (hB : B ≤ 1048576) : ∀ (l p : List (List Int)) (k : Nat), (∀ r ∈ l, r.length ≤ B) → (p ++ l).length ≤ 10000000 → l.length + B + 10 < k →
    impl_goodRows.l0 k x0 a m most (p ++ l) (p ++ l).length p.length = some (l.all (rowOk m most) && ((x0.length : Int) == a))
  | [], p, k, _, _, hk => by
    obtain ⟨k, rfl⟩ : ∃ m, k = m + 1 := ⟨k - 1, by omega⟩
    rw [impl_goodRows.l0, List.append_nil, if_neg (by omega)]
    rfl
  | x :: l, p, k, hb, hl, hk => by
    obtain ⟨k, rfl⟩ : ∃ m, k = m + 1 := ⟨k - 1, by omega⟩
    rw [List.length_cons] at hk
    have hl2 := hl
    rw [List.length_append, List.length_cons] at hl2
    have hx := hb x List.mem_cons_self
    rw [impl_goodRows.l0, if_pos (len_mid p x l), if_pos (by omega), if_pos (len_mid p x l), rdL_mid, next_mid p x (by omega), List.all_cons]
    have h := goodRows_l x0 a m most B hB l (p ++ [x]) k (fun r hr => hb r (List.mem_cons_of_mem _ hr)) (by rw [List.append_assoc, List.singleton_append]; exact hl) (by omega)
    rw [List.append_assoc p [x] l, List.singleton_append] at h
    unfold rowOk
    by_cases e : (x.length : Int) = m
    · rw [if_pos e, decide_eq_true e, Bool.true_and, impl_allIn_eq x 0 most k (by omega) (by omega)]
      simp only [Option.bind_some]
      cases x.all fun x => decide (0 ≤ x ∧ x ≤ most)
      · simp
      · rw [if_pos rfl, Bool.true_and, h]
        rfl
    · rw [if_neg e, decide_eq_false e]
      simp
theorem goodRows_eq (l : List (List Int)) (a m most : Int) (k : Nat) (hb : ∀ r ∈ l, r.length ≤ 1048576) (hl : l.length ≤ 10000000) (hk : l.length + 1048586 < k) : impl_goodRows.f k l a m most = some (l.all (rowOk m most) && ((l.length : Int) == a)) :=
  goodRows_l l a m most 1048576 (Nat.le_refl _) l [] k hb hl (by omega)

-- rdt(78)
theorem rd_T78_at (l : List S78) (i : Nat) (h : i < l.length) : rd_T78 l i = l[i] := by
  simp [rd_T78, List.getD_eq_getElem?_getD, List.getElem?_eq_getElem h]

-- tos(78;61;laws_toLetterS;laws_toLetter.f, laws_toEntry;⟨x.f0, x.f1, ⟨x.f2.f0, x.f2.f1⟩, x.f3⟩;7036874417766)
def cv78 (x : S78) : S61 := ⟨x.f0, x.f1, ⟨x.f2.f0, x.f2.f1⟩, x.f3⟩
theorem laws_toLetterS_l (l : List S78) (hn : l.length ≤ 4611686018427387904) (d : Nat) : ∀ (k i : Nat) (m : List S61), i + d = l.length → m.length = l.length → m.take i = (l.map cv78).take i → d < k →
    laws_toLetterS.l0 k l m i = some (l.map cv78) := by
  induction d with
  | zero =>
    intro k i m h hm ht hk
    obtain ⟨k, rfl⟩ : ∃ m, k = m + 1 := ⟨k - 1, by omega⟩
    simp only [laws_toLetterS.l0]
    rw [if_neg (by omega)]
    rw [List.take_of_length_le (by omega), List.take_of_length_le (by rw [List.length_map]; omega)] at ht
    rw [ht]
  | succ d ih =>
    intro k i m h hm ht hk
    obtain ⟨k, rfl⟩ : ∃ m, k = m + 1 := ⟨k - 1, by omega⟩
    simp only [laws_toLetterS.l0, laws_toLetter.f, laws_toEntry.f, Option.bind_some]
    rw [if_pos (by omega), if_pos (by omega), if_pos (by omega), w64 (by omega) (by omega), show ((i : Int) + 1) = ((i + 1 : Nat) : Int) by omega]
    refine ih k (i + 1) _ (by omega) (by rw [List.length_set]; exact hm) ?_ (by omega)
    rw [Int.toNat_natCast]
    exact set_take _ _ i (by rw [List.length_map]; omega) (by rw [List.length_map]; exact hm) ht _ (by rw [List.getElem?_map, List.getElem?_eq_getElem (by omega), rd_T78_at l i (by omega)]; rfl)
theorem laws_toLetterS_eq (l : List S78) (k : Nat) (hn : l.length ≤ 7036874417766) (hk : l.length < k) : laws_toLetterS.f k l = some (l.map cv78) := by
  unfold laws_toLetterS.f
  rw [if_pos (by omega), if_pos (by omega)]
  exact laws_toLetterS_l l (by omega) l.length k 0 _ (by omega) (by simp) (by simp) hk

-- eqs(61;laws_eqLetterS;laws_eqLetter.f laws_eqEntry)
theorem laws_eqLetterS_l (l : List S61) (hn : l.length ≤ 4611686018427387904) (d : Nat) : ∀ (k i : Nat), i + d = l.length → d < k → laws_eqLetterS.l0 k l l i = some true := by
  induction d with
  | zero =>
    intro k i h hk
    obtain ⟨k, rfl⟩ : ∃ m, k = m + 1 := ⟨k - 1, by omega⟩
    simp only [laws_eqLetterS.l0]
    rw [if_neg (by omega)]
  | succ d ih =>
    intro k i h hk
    obtain ⟨k, rfl⟩ : ∃ m, k = m + 1 := ⟨k - 1, by omega⟩
    have h1 := ih k (i + 1) (by omega) (by omega)
    simp only [laws_eqLetterS.l0]
    rw [if_pos (by omega), if_pos (by omega), if_pos (by omega), w64 (by omega) (by omega), show ((i : Int) + 1) = ((i + 1 : Nat) : Int) by omega, h1]
    unfold laws_eqLetter.f laws_eqEntry.f
    simp
theorem laws_eqLetterS_refl (l : List S61) (k : Nat) (hn : l.length ≤ 4611686018427387904) (hk : l.length < k) : laws_eqLetterS.f k l l = some true := by
  unfold laws_eqLetterS.f
  rw [if_pos rfl]
  exact laws_eqLetterS_l l hn l.length k 0 (by omega) hk

-- flood4
theorem links_ok (n : Int) (ls : List (List Int)) (h : linksB n ls = true) : (1 ≤ n ∧ n ≤ 6) ∧ ls.length ≤ 15 ∧ (∀ l ∈ ls, l.length = 2) ∧ ∀ l ∈ ls, (0 ≤ rd l 0 ∧ rd l 0 < n) ∧ (0 ≤ rd l 1 ∧ rd l 1 < n) ∧ rd l 0 < rd l 1 := by
  unfold linksB at h
  rw [Bool.and_eq_true, Bool.and_eq_true, List.all_eq_true, decide_eq_true_eq, decide_eq_true_eq] at h
  obtain ⟨ha, hn, hl⟩ := h
  have hk : ∀ l ∈ ls, lkB (n - 1) l = true := by
    intro l hm
    obtain ⟨i, hi, rfl⟩ := List.mem_iff_getElem.1 hm
    have h1 := ha i (List.mem_range.2 hi)
    unfold okAt at h1
    rw [Bool.and_eq_true, w64 (by omega) (by omega)] at h1
    have e : rd_L1 ls (i : Int) = ls[i] := by simp [rd_L1, List.getD_eq_getElem?_getD, List.getElem?_eq_getElem hi]
    rw [e] at h1
    exact h1.1
  refine ⟨hn, hl, fun l hm => ?_, fun l hm => ?_⟩
  · have := hk l hm
    unfold lkB at this
    simp only [Bool.and_eq_true, decide_eq_true_eq] at this
    exact this.1
  · have := hk l hm
    unfold lkB at this
    simp only [Bool.and_eq_true, decide_eq_true_eq] at this
    omega
theorem linksC_eq (n : Int) (ls : List (List Int)) : linksC n ls = linksB n ls := rfl
theorem any_side (T : List S69) (x : S61) : (T.any fun s => decide (s.f0 = x.f0) && decide (s.f1 = x.f1)) = (T.map fun s => [s.f0, s.f1]).any fun r => decide (rd r 0 = x.f0) && decide (rd r 1 = x.f1) := by
  rw [List.any_map]
  rfl
theorem spec_GF (l0 l1 l2 : List (List Int)) (l3 : List S61) (k : Nat) (h0 : l0.length ≤ 1048576) (h1 : l1.length ≤ 1048576) (h2 : l2.length ≤ 1048576) (h3 : l3.length ≤ 1048576) (hb1 : ∀ r ∈ l1, r.length ≤ 1048576) (hb2 : ∀ r ∈ l2, r.length ≤ 1048576) (hk : 10000000 < k) :
    spec_GoodFlood.f k l0 l1 l2 l3 = some (goodF l0 l1 l2 l3) := by
  unfold spec_GoodFlood.f goodF spec_l6Links.f
  rw [if_pos (by omega)]
  simp only [Option.bind_some]
  obtain ⟨k, rfl⟩ : ∃ m, k = m + 1 := ⟨k - 1, by omega⟩
  cases hL : linksB (l1.length : Int) l0
  · rw [if_neg (by decide), spec_GoodFlood.j0]
    rfl
  · rw [if_pos rfl, Bool.true_and]
    obtain ⟨hn, hl, ht, hin⟩ := links_ok _ _ hL
    have hR : ∀ k, 200 < k → spec_l6Rows.f k (l1.length : Int) l0 = some (rowsL l1.length l0 0 l1.length) := fun k hk => rows_eq l1.length (by omega) l0 ht hl hin k hk
    have hRl := rowsL_len l1.length l0 l1.length 0
    have hm : l1.length * l1.length ≤ 6 * 6 := Nat.mul_le_mul (by omega) (by omega)
    rw [hR (k + 1) (by omega)]
    simp only [Option.bind_some]
    by_cases e : l2.length = (rowsL l1.length l0 0 l1.length).length
    · rw [if_pos (by omega), decide_eq_true e, Bool.true_and, spec_GoodFlood.j0]
      by_cases e3 : l3.length ≤ 40
      · rw [if_neg (by simp; omega), decide_eq_true e3, Bool.true_and]
        have hA := specK_l (l1.length : Int) l0 l1 l2 l3 1048576 (Nat.le_refl _) l1 [] k hb1 (by rw [List.nil_append]; omega) (by omega)
        have hA2 : spec_GoodFlood.l0 k (l1.length : Int) l1 l1.length 0 l0 l1 l2 l3 = _ := hA
        rw [hA2]
        cases l1.all (rowOk (l1.length : Int) 60)
        · rfl
        · rw [if_pos rfl, Bool.true_and]
          have hO := specO_l (l1.length : Int) l0 l1 l2 l3 1048576 (Nat.le_refl _) l2 [] (k - 1 - l1.length) hb2 (by rw [List.nil_append]; omega) (by omega)
          have hO2 : spec_GoodFlood.l1 (k - 1 - l1.length) (l1.length : Int) l2 l2.length 0 l0 l1 l2 l3 = _ := hO
          rw [hO2]
          cases l2.all (rowOk (l1.length : Int) 1)
          · rfl
          · rw [if_pos rfl, Bool.true_and]
            exact specL_l l1.length (by omega) _ l0 l1 l2 l3 rfl hR (rowsL_two _ _ _ _) (by omega) l3 [] (k - 1 - l1.length - 1 - l2.length) (by rw [List.nil_append]; omega) (by omega)
      · rw [if_pos (by simp; omega), decide_eq_false e3]
        rfl
    · rw [if_neg (by omega), decide_eq_false e, spec_GoodFlood.j0]
      rfl
theorem impl_GF (l0 l1 l2 : List (List Int)) (l3 : List S61) (k : Nat) (h0 : l0.length ≤ 1048576) (h1 : l1.length ≤ 1048576) (h2 : l2.length ≤ 1048576) (h3 : l3.length ≤ 1048576) (hb1 : ∀ r ∈ l1, r.length ≤ 1048576) (hb2 : ∀ r ∈ l2, r.length ≤ 1048576) (hk : 10000000 < k) :
    impl_GoodFlood.f k l0 l1 l2 l3 = some (goodF l0 l1 l2 l3) := by
  unfold impl_GoodFlood.f goodF impl_goodLinks.f
  rw [if_pos (by omega)]
  simp only [Option.bind_some]
  rw [linksC_eq]
  obtain ⟨k, rfl⟩ : ∃ m, k = m + 1 := ⟨k - 1, by omega⟩
  cases hL : linksB (l1.length : Int) l0
  · rw [if_neg (by decide), impl_GoodFlood.j0]
    rfl
  · rw [if_pos rfl, Bool.true_and]
    obtain ⟨hn, hl, ht, hin⟩ := links_ok _ _ hL
    have hs := sOut_rows l0 l1.length l1.length 0
    have hRl := rowsL_len l1.length l0 l1.length 0
    have hm : l1.length * l1.length ≤ 6 * 6 := Nat.mul_le_mul (by omega) (by omega)
    have hsl : (sOut l0 l1.length 0 l1.length).length = (rowsL l1.length l0 0 l1.length).length := by rw [← hs, List.length_map]
    rw [goodRows_eq l1 _ _ _ (k + 1) hb1 (by omega) (by omega)]
    simp only [Option.bind_some]
    rw [show ((l1.length : Int) == (l1.length : Int)) = true by simp, Bool.and_true]
    cases hA : l1.all (rowOk (l1.length : Int) 60)
    · rw [if_neg (by decide), impl_GoodFlood.j0]
      cases decide (l2.length = (rowsL l1.length l0 0 l1.length).length) <;> cases decide (l3.length ≤ 40) <;> rfl
    · rw [if_pos rfl, impl_GoodFlood.j0, Bool.true_and]
      by_cases e3 : l3.length ≤ 40
      · rw [if_neg (by simp; omega), decide_eq_true e3, Bool.true_and]
        unfold impl_Flood_sides.f impl_sides.f
        rw [if_pos (by omega), if_pos (by omega), if_pos (by rw [List.all_eq_true]; intro x hx; simp [ht x hx]), Int.toNat_natCast]
        simp only [Option.bind_some]
        rw [goodRows_eq l2 _ _ _ k hb2 (by omega) (by omega), hsl]
        simp only [Option.bind_some]
        by_cases e : l2.length = (rowsL l1.length l0 0 l1.length).length
        · rw [show ((l2.length : Int) == ((rowsL l1.length l0 0 l1.length).length : Int)) = true by rw [beq_iff_eq]; omega, Bool.and_true, decide_eq_true e, Bool.true_and]
          cases l2.all (rowOk (l1.length : Int) 1)
          · rfl
          · rw [if_pos rfl, Bool.true_and]
            have hI := implF_l (l1.length : Int) (sOut l0 l1.length 0 l1.length) (by omega) l3 [] k (by rw [List.nil_append]; omega) (by omega)
            refine Eq.trans hI ?_
            congr 2
            funext x
            unfold letOkI letOk
            rw [any_side, hs]
        · rw [show ((l2.length : Int) == ((rowsL l1.length l0 0 l1.length).length : Int)) = false by rw [beq_eq_false_iff_ne]; omega, Bool.and_false, decide_eq_false e]
          rfl
      · rw [if_pos (by simp; omega), decide_eq_false e3]
        cases decide (l2.length = (rowsL l1.length l0 0 l1.length).length) <;> rfl
theorem szF (l0 l1 l2 : List (List Int)) (l3 : List S78) (k : Nat) (h0 : l0.length ≤ 140737488351232 ∧ ∀ r ∈ l0, r.length ≤ 140737488351232) (h1 : l1.length ≤ 140737488351232 ∧ ∀ r ∈ l1, r.length ≤ 140737488351232) (h2 : l2.length ≤ 140737488351232 ∧ ∀ r ∈ l2, r.length ≤ 140737488351232) (h3 : l3.length ≤ 140737488351232)
    (hk : l0.length + l1.length + l2.length < k) : ∃ s, laws_szFlood.f k l0 l1 l2 l3 1048576 = some s ∧ (s < 0 ∨ (0 ≤ s ∧ (l0.length ≤ 1048576 ∧ ∀ r ∈ l0, r.length ≤ 1048576) ∧ (l1.length ≤ 1048576 ∧ ∀ r ∈ l1, r.length ≤ 1048576) ∧ (l2.length ≤ 1048576 ∧ ∀ r ∈ l2, r.length ≤ 1048576) ∧ l3.length ≤ 1048576)) := by
  unfold laws_szFlood.f
  obtain ⟨a, ha, hd⟩ := szSS_any l0 1048576 k (by omega) h0.1 h0.2 (by omega)
  rw [ha]
  simp only [Option.bind_some]
  by_cases c0 : a < 0
  · rw [if_pos c0]; exact ⟨-1, rfl, .inl (by omega)⟩
  rw [if_neg c0]
  have e0 : a ≤ 1048576 := szSS_le l0 1048576 a k (by omega) h0.1 h0.2 (by omega) ha
  obtain ⟨b, hb, hd1⟩ := szSS_any l1 a k (by omega) h1.1 h1.2 (by omega)
  rw [hb]
  simp only [Option.bind_some]
  by_cases c1 : b < 0
  · rw [if_pos c1]; exact ⟨-1, rfl, .inl (by omega)⟩
  rw [if_neg c1]
  have e1 : b ≤ 1048576 := Int.le_trans (szSS_le l1 a b k (by omega) h1.1 h1.2 (by omega) hb) e0
  obtain ⟨c, hc, hd2⟩ := szSS_any l2 b k (by omega) h2.1 h2.2 (by omega)
  rw [hc]
  simp only [Option.bind_some]
  by_cases c2 : c < 0
  · rw [if_pos c2]; exact ⟨-1, rfl, .inl (by omega)⟩
  rw [if_neg c2]
  have e2 : c ≤ 1048576 := Int.le_trans (szSS_le l2 b c k (by omega) h2.1 h2.2 (by omega) hc) e1
  unfold laws_szLetterS.f
  rw [w64 (by omega) (by omega)]
  by_cases c3 : c - (l3.length : Int) < 0
  · rw [if_pos c3]
    simp only [Option.bind_some]
    rw [if_pos (by omega)]
    exact ⟨-1, rfl, .inl (by omega)⟩
  rw [if_neg c3]
  simp only [Option.bind_some]
  rw [if_neg c3]
  refine ⟨_, rfl, .inr ⟨by omega, ?_, ?_, ?_, by omega⟩⟩
  · rcases hd with h | h
    · exact absurd h c0
    · exact h.2
  · rcases hd1 with h | h
    · exact absurd h c1
    · exact h.2
  · rcases hd2 with h | h
    · exact absurd h c2
    · exact h.2
theorem toF (l0 l1 l2 : List (List Int)) (l3 : List S78) (k : Nat) (h0 : l0.length ≤ 1048576 ∧ ∀ r ∈ l0, r.length ≤ 1048576) (h1 : l1.length ≤ 1048576 ∧ ∀ r ∈ l1, r.length ≤ 1048576) (h2 : l2.length ≤ 1048576 ∧ ∀ r ∈ l2, r.length ≤ 1048576) (h3 : l3.length ≤ 1048576) (hk : 10000000 < k) :
    laws_toFlood.f k l0 l1 l2 l3 = some (l0, l1, l2, l3.map cv78) := by
  unfold laws_toFlood.f
  rw [toSS l0 1048576 k (by omega) (by omega) h0.2 (by omega)]
  simp only [Option.bind_some]
  rw [toSS l1 1048576 k (by omega) (by omega) h1.2 (by omega)]
  simp only [Option.bind_some]
  rw [toSS l2 1048576 k (by omega) (by omega) h2.2 (by omega)]
  simp only [Option.bind_some]
  rw [laws_toLetterS_eq l3 k (by omega) (by omega)]
  rfl
theorem eqF (l0 l1 l2 : List (List Int)) (l3 : List S61) (k : Nat) (h0 : l0.length ≤ 1048576 ∧ ∀ r ∈ l0, r.length ≤ 1048576) (h1 : l1.length ≤ 1048576 ∧ ∀ r ∈ l1, r.length ≤ 1048576) (h2 : l2.length ≤ 1048576 ∧ ∀ r ∈ l2, r.length ≤ 1048576) (h3 : l3.length ≤ 1048576) (hk : 10000000 < k) :
    laws_eqFlood.f k l0 l1 l2 l3 l0 l1 l2 l3 = some true := by
  unfold laws_eqFlood.f
  rw [eqSS_refl l0 1048576 k (by omega) (by omega) h0.2 (by omega)]
  simp only [Option.bind_some, if_true]
  rw [eqSS_refl l1 1048576 k (by omega) (by omega) h1.2 (by omega)]
  simp only [Option.bind_some, if_true]
  rw [eqSS_refl l2 1048576 k (by omega) (by omega) h2.2 (by omega)]
  simp only [Option.bind_some, if_true]
  rw [laws_eqLetterS_refl l3 k (by omega) (by omega)]
  rfl

-- groups
-- passes over pairs: n passes come to the end that some number of passes comes to
/-- One pair: both take the least. -/
def stp (f : Nat → Int) (p : Nat × Nat) : Nat → Int := fun v => if v = p.1 ∨ v = p.2 then min (f p.1) (f p.2) else f v
def pss (L : List (Nat × Nat)) (f : Nat → Int) : Nat → Int := L.foldl stp f
def itr (L : List (Nat × Nat)) : Nat → (Nat → Int) → Nat → Int
  | 0, f => f
  | m + 1, f => itr L m (pss L f)
theorem stp_le (f : Nat → Int) (p : Nat × Nat) (v : Nat) : stp f p v ≤ f v := by
  unfold stp
  split
  · rename_i h
    rcases h with rfl | rfl
    · exact Int.min_le_left _ _
    · exact Int.min_le_right _ _
  · exact Int.le_refl _
theorem pss_le (L : List (Nat × Nat)) : ∀ (f : Nat → Int) (v : Nat), pss L f v ≤ f v := by
  induction L with
  | nil => intro f v; exact Int.le_refl _
  | cons p L ih => intro f v; exact Int.le_trans (ih (stp f p) v) (stp_le f p v)
theorem stp_mono {f g : Nat → Int} (h : ∀ v, f v ≤ g v) (p : Nat × Nat) (v : Nat) : stp f p v ≤ stp g p v := by
  unfold stp
  split
  · have := h p.1; have := h p.2; omega
  · exact h v
theorem pss_mono (L : List (Nat × Nat)) : ∀ {f g : Nat → Int}, (∀ v, f v ≤ g v) → ∀ v, pss L f v ≤ pss L g v := by
  induction L with
  | nil => intro f g h v; exact h v
  | cons p L ih => intro f g h v; exact ih (fun v => stp_mono h p v) v
theorem fix_all (L : List (Nat × Nat)) : ∀ {f : Nat → Int}, (∀ v, pss L f v = f v) → ∀ p ∈ L, f p.1 = f p.2 := by
  induction L with
  | nil => intro f h p hp; simp at hp
  | cons q L ih =>
    intro f h p hp
    have h1 : ∀ v, stp f q v = f v := fun v => Int.le_antisymm (stp_le f q v) (by
      have := pss_le L (stp f q) v
      have h2 : pss L (stp f q) v = f v := h v
      omega)
    have h3 : stp f q = f := funext h1
    rcases List.mem_cons.1 hp with rfl | hp
    · have a := h1 p.1
      have b := h1 p.2
      simp [stp] at a b
      omega
    · exact ih (f := f) (fun v => by have h2 : pss L (stp f q) v = f v := h v; rw [h3] at h2; exact h2) p hp
theorem pss_edge (L : List (Nat × Nat)) : ∀ (f : Nat → Int) (p : Nat × Nat), p ∈ L → pss L f p.2 ≤ f p.1 ∧ pss L f p.1 ≤ f p.2 := by
  induction L with
  | nil => intro f p hp; simp at hp
  | cons q L ih =>
    intro f p hp
    show pss L (stp f q) p.2 ≤ f p.1 ∧ pss L (stp f q) p.1 ≤ f p.2
    rcases List.mem_cons.1 hp with rfl | hp
    · have a := pss_le L (stp f p) p.2
      have b := pss_le L (stp f p) p.1
      have c : stp f p p.2 = min (f p.1) (f p.2) := by simp [stp]
      have d : stp f p p.1 = min (f p.1) (f p.2) := by simp [stp]
      omega
    · have := ih (stp f q) p hp
      have := stp_le f q p.1
      have := stp_le f q p.2
      omega
theorem pss_closed (L : List (Nat × Nat)) (T : Nat → Prop) (μ : Int) : ∀ (f : Nat → Int), (∀ p ∈ L, T p.1 ↔ T p.2) → (∀ v, T v → μ ≤ f v) → ∀ v, T v → μ ≤ pss L f v := by
  induction L with
  | nil => intro f _ h v hv; exact h v hv
  | cons q L ih =>
    intro f hc h v hv
    refine ih (stp f q) (fun p hp => hc p (List.mem_cons_of_mem _ hp)) (fun v hv => ?_) v hv
    unfold stp
    split
    · rename_i hq
      have e := hc q List.mem_cons_self
      have h1 : T q.1 := by rcases hq with rfl | rfl; exact hv; exact e.2 hv
      have := h _ h1
      have := h _ (e.1 h1)
      omega
    · exact h v hv
theorem itr_closed (L : List (Nat × Nat)) (T : Nat → Prop) (μ : Int) (hc : ∀ p ∈ L, T p.1 ↔ T p.2) : ∀ (m : Nat) (f : Nat → Int), (∀ v, T v → μ ≤ f v) → ∀ v, T v → μ ≤ itr L m f v := by
  intro m
  induction m with
  | zero => intro f h v hv; exact h v hv
  | succ m ih => intro f h v hv; exact ih (pss L f) (pss_closed L T μ f hc h) v hv
theorem itr_le (L : List (Nat × Nat)) : ∀ (m : Nat) (f : Nat → Int) (v : Nat), itr L m f v ≤ f v := by
  intro m
  induction m with
  | zero => intro f v; exact Int.le_refl _
  | succ m ih => intro f v; exact Int.le_trans (ih (pss L f) v) (pss_le L f v)
theorem itr_snoc (L : List (Nat × Nat)) : ∀ (m : Nat) (f : Nat → Int), itr L (m + 1) f = pss L (itr L m f) := by
  intro m
  induction m with
  | zero => intro f; rfl
  | succ m ih => intro f; exact ih (pss L f)
/-- The least of what a test lets in, below n. -/
theorem least_at (T : Nat → Prop) (f : Nat → Int) : ∀ n : Nat, (∃ v, v < n ∧ T v) → ∃ v, v < n ∧ T v ∧ ∀ u, u < n → T u → f v ≤ f u := by
  intro n
  induction n with
  | zero => rintro ⟨v, h, _⟩; omega
  | succ n ih =>
    rintro ⟨v, hv, hT⟩
    by_cases h : ∃ v, v < n ∧ T v
    · obtain ⟨x, hx, hTx, hm⟩ := ih h
      by_cases hn : T n ∧ f n < f x
      · refine ⟨n, by omega, hn.1, fun u hu hTu => ?_⟩
        by_cases e : u = n
        · rw [e]; exact Int.le_refl _
        · have := hm u (by omega) hTu; omega
      · refine ⟨x, by omega, hTx, fun u hu hTu => ?_⟩
        by_cases e : u = n
        · subst e
          have : ¬ f u < f x := fun h2 => hn ⟨hTu, h2⟩
          omega
        · exact hm u (by omega) hTu
    · have e : v = n := by
        have : ¬ v < n := fun h2 => h ⟨v, h2, hT⟩
        omega
      subst e
      refine ⟨v, by omega, hT, fun u hu hTu => ?_⟩
      have : ¬ u < v := fun h2 => h ⟨u, h2, hTu⟩
      have : u = v := by omega
      rw [this]; exact Int.le_refl _
def cnt (n : Nat) (f F : Nat → Int) : Nat := (List.range n).countP fun v => f v == F v
theorem countP_lt {α : Type} (p q : α → Bool) : ∀ (l : List α), (∀ x ∈ l, p x = true → q x = true) → (∃ x ∈ l, p x = false ∧ q x = true) → l.countP p < l.countP q := by
  intro l
  induction l with
  | nil => rintro _ ⟨x, hx, _⟩; simp at hx
  | cons a l ih =>
    intro h1 h2
    have hle : l.countP p ≤ l.countP q := List.countP_mono_left (fun x hx => h1 x (List.mem_cons_of_mem _ hx))
    rw [List.countP_cons, List.countP_cons]
    obtain ⟨x, hx, hp, hq⟩ := h2
    rcases List.mem_cons.1 hx with rfl | hx
    · rw [hp, hq]; simp; omega
    · have := ih (fun x hx => h1 x (List.mem_cons_of_mem _ hx)) ⟨x, hx, hp, hq⟩
      by_cases ha : p a = true
      · rw [ha, h1 a List.mem_cons_self ha]; simp; omega
      · have : p a = false := by simpa using ha
        rw [this]; simp; omega
/-- From f, of which F comes by some passes, one pass more brings one more place to its end. -/
theorem grows (L : List (Nat × Nat)) (n : Nat) (hL : ∀ p ∈ L, p.1 < n ∧ p.2 < n) (f F : Nat → Int) (hF : ∀ v, pss L F v = F v) (m : Nat) (hm : itr L m f = F) :
    cnt n f F = n ∨ cnt n f F < cnt n (pss L f) F := by
  by_cases hall : ∀ v, v < n → f v = F v
  · left
    unfold cnt
    rw [List.countP_eq_length.2 (fun v hv => by simpa using hall v (List.mem_range.1 hv)), List.length_range]
  · right
    have hle : ∀ v, F v ≤ f v := fun v => by rw [← hm]; exact itr_le L m f v
    have hE := fix_all L hF
    have hlow : ∀ v, F v ≤ pss L f v := fun v => by have := pss_mono L hle v; rw [hF v] at this; exact this
    have hstay : ∀ v, f v = F v → pss L f v = F v := fun v hv => Int.le_antisymm (by rw [← hv]; exact pss_le L f v) (hlow v)
    have hex : ∃ v, v < n ∧ f v ≠ F v := by
      refine Classical.byContradiction fun h => hall fun v hv => Classical.byContradiction fun h2 => h ⟨v, hv, h2⟩
    have hcross : ∃ v, v < n ∧ f v ≠ F v ∧ pss L f v = F v := by
      refine Classical.byContradiction fun hno => ?_
      have hno2 : ∀ v, v < n → f v ≠ F v → pss L f v ≠ F v := fun v hv h1 h2 => hno ⟨v, hv, h1, h2⟩
      obtain ⟨x, hx, hTx, hmin⟩ := least_at (fun v => f v ≠ F v) f n hex
      have hcl : ∀ p ∈ L, (p.1 < n ∧ f p.1 ≠ F p.1) ↔ (p.2 < n ∧ f p.2 ≠ F p.2) := by
        intro p hp
        obtain ⟨l1, l2⟩ := hL p hp
        have he := pss_edge L f p hp
        have hf := hE p hp
        constructor
        · rintro ⟨_, h⟩
          refine ⟨l2, fun h2 => hno2 p.1 l1 h ?_⟩
          have := hlow p.1
          omega
        · rintro ⟨_, h⟩
          refine ⟨l1, fun h2 => hno2 p.2 l2 h ?_⟩
          have := hlow p.2
          omega
      have := itr_closed L (fun v => v < n ∧ f v ≠ F v) (f x) hcl m f (fun v hv => hmin v hv.1 hv.2) x ⟨hx, hTx⟩
      rw [hm] at this
      exact hTx (Int.le_antisymm this (hle x))
    obtain ⟨v, hv, h1, h2⟩ := hcross
    refine countP_lt _ _ _ (fun u _ hu => ?_) ⟨v, List.mem_range.2 hv, by simpa using h1, by simpa using h2⟩
    have : f u = F u := by simpa using hu
    simpa using hstay u this
theorem cnt_le (n : Nat) (f F : Nat → Int) : cnt n f F ≤ n := by
  have := List.countP_le_length (p := fun v => f v == F v) (l := List.range n)
  rw [List.length_range] at this
  exact this
theorem fix_itr (L : List (Nat × Nat)) (F : Nat → Int) (hF : pss L F = F) : ∀ k, itr L k F = F := by
  intro k
  induction k with
  | zero => rfl
  | succ k ih => show itr L k (pss L F) = F; rw [hF]; exact ih
/-- n passes are enough. -/
theorem enough (L : List (Nat × Nat)) (n : Nat) (hL : ∀ p ∈ L, p.1 < n ∧ p.2 < n) (F : Nat → Int) (hF : ∀ v, pss L F v = F v) : ∀ (k : Nat) (f : Nat → Int) (m : Nat), itr L m f = F → min n (cnt n f F + k) ≤ cnt n (itr L k f) F := by
  have hF' : pss L F = F := funext hF
  intro k
  induction k with
  | zero => intro f m hm; show min n (cnt n f F + 0) ≤ cnt n f F; omega
  | succ k ih =>
    intro f m hm
    have hm' : ∃ m', itr L m' (pss L f) = F := by
      cases m with
      | zero => exact ⟨0, by show pss L f = F; have : f = F := hm; rw [this]; exact hF'⟩
      | succ m => exact ⟨m, hm⟩
    obtain ⟨m', hm'⟩ := hm'
    have h1 := ih (pss L f) m' hm'
    show min n (cnt n f F + (k + 1)) ≤ cnt n (itr L k (pss L f)) F
    have h3 := cnt_le n (pss L f) F
    rcases grows L n hL f F hF m hm with h | h
    · -- all are at their end: they stay
      have hge : cnt n f F ≤ cnt n (pss L f) F := by
        refine List.countP_mono_left fun v _ hv => ?_
        have hv' : f v = F v := by simpa using hv
        have hle : ∀ v, F v ≤ f v := fun v => by rw [← hm]; exact itr_le L m f v
        have hlow : F v ≤ pss L f v := by have := pss_mono L hle v; rw [hF v] at this; exact this
        have := pss_le L f v
        have : pss L f v = F v := by omega
        simpa using this
      omega
    · omega
theorem n_passes (L : List (Nat × Nat)) (n : Nat) (hL : ∀ p ∈ L, p.1 < n ∧ p.2 < n) (f F : Nat → Int) (hF : ∀ v, pss L F v = F v) (m : Nat) (hm : itr L m f = F) : ∀ v, v < n → itr L n f v = F v := by
  have h := enough L n hL F hF n f m hm
  have h2 := cnt_le n (itr L n f) F
  have h3 : cnt n (itr L n f) F = (List.range n).length := by rw [List.length_range]; omega
  intro v hv
  have := List.countP_eq_length.1 h3 v (List.mem_range.2 hv)
  simpa using this

/-- One pair, on a list. -/
def stL (x p : List Int) : List Int := (x.set (rd p 0).toNat (min (rd x (rd p 0)) (rd x (rd p 1)))).set (rd p 1).toNat (min (rd x (rd p 0)) (rd x (rd p 1)))
def psL (ls : List (List Int)) (x : List Int) : List Int := ls.foldl stL x
def itL (ls : List (List Int)) : Nat → List Int → List Int
  | 0, x => x
  | m + 1, x => itL ls m (psL ls x)
def fnL (x : List Int) : Nat → Int := fun v => x.getD v 0
def prs (ls : List (List Int)) : List (Nat × Nat) := ls.map fun p => ((rd p 0).toNat, (rd p 1).toNat)
def okL (n : Nat) (ls : List (List Int)) : Prop := ∀ l ∈ ls, l.length = 2 ∧ (0 ≤ rd l 0 ∧ rd l 0 < n) ∧ (0 ≤ rd l 1 ∧ rd l 1 < n)
theorem okL_tl {n : Nat} {p : List Int} {l : List (List Int)} (h : okL n (p :: l)) : okL n l := fun x hx => h x (List.mem_cons_of_mem _ hx)
theorem stL_len (x p : List Int) : (stL x p).length = x.length := by simp [stL]
theorem psL_len : ∀ (l : List (List Int)) (x : List Int), (psL l x).length = x.length
  | [], _ => rfl
  | p :: l, x => by
    show (psL l (stL x p)).length = x.length
    rw [psL_len l, stL_len]
theorem itL_len (ls : List (List Int)) : ∀ (m : Nat) (x : List Int), (itL ls m x).length = x.length
  | 0, _ => rfl
  | m + 1, x => by
    show (itL ls m (psL ls x)).length = x.length
    rw [itL_len ls m, psL_len]
theorem stL_fn (x p : List Int) (h0 : (rd p 0).toNat < x.length) (h1 : (rd p 1).toNat < x.length) : fnL (stL x p) = stp (fnL x) ((rd p 0).toNat, (rd p 1).toNat) := by
  have e0 : rd x (rd p 0) = fnL x (rd p 0).toNat := rfl
  have e1 : rd x (rd p 1) = fnL x (rd p 1).toNat := rfl
  funext v
  unfold stL stp
  rw [e0, e1]
  generalize min (fnL x (rd p 0).toNat) (fnL x (rd p 1).toNat) = m
  generalize (rd p 0).toNat = a at *
  generalize (rd p 1).toNat = b at *
  unfold fnL
  rw [List.getD_eq_getElem?_getD, List.getElem?_set]
  by_cases hb : b = v
  · subst hb
    rw [if_pos rfl, if_pos (by rw [List.length_set]; exact h1), if_pos (Or.inr rfl)]
    rfl
  · rw [if_neg hb, List.getElem?_set]
    by_cases ha : a = v
    · subst ha
      rw [if_pos rfl, if_pos h0, if_pos (Or.inl rfl)]
      rfl
    · rw [if_neg ha, if_neg (by rintro (h | h); exact ha h.symm; exact hb h.symm), List.getD_eq_getElem?_getD]
theorem psL_fn (n : Nat) : ∀ (l : List (List Int)) (x : List Int), okL n l → x.length = n → fnL (psL l x) = pss (prs l) (fnL x)
  | [], _, _, _ => rfl
  | p :: l, x, h, hx => by
    have hp := h p List.mem_cons_self
    show fnL (psL l (stL x p)) = pss (prs l) (stp (fnL x) ((rd p 0).toNat, (rd p 1).toNat))
    rw [psL_fn n l (stL x p) (okL_tl h) (by rw [stL_len]; exact hx), stL_fn x p (by omega) (by omega)]
theorem itL_fn (n : Nat) (ls : List (List Int)) (h : okL n ls) : ∀ (m : Nat) (x : List Int), x.length = n → fnL (itL ls m x) = itr (prs ls) m (fnL x)
  | 0, _, _ => rfl
  | m + 1, x, hx => by
    show fnL (itL ls m (psL ls x)) = itr (prs ls) m (pss (prs ls) (fnL x))
    rw [itL_fn n ls h m (psL ls x) (by rw [psL_len]; exact hx), psL_fn n ls x h hx]
theorem prs_in (n : Nat) (ls : List (List Int)) (h : okL n ls) : ∀ p ∈ prs ls, p.1 < n ∧ p.2 < n := by
  intro p hp
  obtain ⟨l, hl, rfl⟩ := List.mem_map.1 hp
  have := h l hl
  exact ⟨by show (rd l 0).toNat < n; omega, by show (rd l 1).toNat < n; omega⟩
theorem fnL_inj (x y : List Int) (hl : x.length = y.length) (h : ∀ v, v < x.length → fnL x v = fnL y v) : x = y := by
  refine List.ext_getElem hl fun i h1 h2 => ?_
  have := h i h1
  unfold fnL at this
  rwa [List.getD_eq_getElem?_getD, List.getD_eq_getElem?_getD, List.getElem?_eq_getElem h1, List.getElem?_eq_getElem h2] at this
-- what falls at each pass that changes
def tot (f : Nat → Int) : Nat → Nat
  | 0 => 0
  | n + 1 => tot f n + (f n).toNat
theorem tot_le (f g : Nat → Int) (h : ∀ v, f v ≤ g v) : ∀ n, tot f n ≤ tot g n
  | 0 => Nat.le_refl _
  | n + 1 => by
    have := tot_le f g h n
    have := h n
    show tot f n + (f n).toNat ≤ tot g n + (g n).toNat
    omega
theorem tot_lt (f g : Nat → Int) (h : ∀ v, f v ≤ g v) (v : Nat) (h1 : f v < g v) (h0 : 0 ≤ f v) : ∀ n, v < n → tot f n < tot g n
  | 0, hv => absurd hv (by omega)
  | n + 1, hv => by
    show tot f n + (f n).toNat < tot g n + (g n).toNat
    by_cases e : v = n
    · subst e
      have := tot_le f g h v
      omega
    · have := tot_lt f g h v h1 h0 n (by omega)
      have := h n
      omega
def chgL : List (List Int) → List Int → Bool
  | [], _ => false
  | p :: l, x => ((rd x (rd p 0) != min (rd x (rd p 0)) (rd x (rd p 1))) || (rd x (rd p 1) != min (rd x (rd p 0)) (rd x (rd p 1)))) || chgL l (stL x p)
theorem set_self (x : List Int) (i : Nat) : x.set i (x.getD i 0) = x := by
  by_cases h : i < x.length
  · rw [List.getD_eq_getElem?_getD, List.getElem?_eq_getElem h]
    exact List.set_getElem_self h
  · exact List.set_eq_of_length_le (by omega)
theorem chg_same : ∀ (l : List (List Int)) (x : List Int), chgL l x = false → psL l x = x
  | [], _, _ => rfl
  | p :: l, x, h => by
    unfold chgL at h
    rw [Bool.or_eq_false_iff, Bool.or_eq_false_iff, bne_eq_false_iff_eq, bne_eq_false_iff_eq] at h
    obtain ⟨⟨h0, h1⟩, h2⟩ := h
    have e : stL x p = x := by
      unfold stL
      rw [← h0]
      have e0 : x.set (rd p 0).toNat (rd x (rd p 0)) = x := set_self x _
      rw [e0, h0, ← h1]
      exact set_self x _
    rw [e] at h2
    show psL l (stL x p) = x
    rw [e]
    exact chg_same l x h2
theorem ps_le (n : Nat) (l : List (List Int)) (x : List Int) (h : okL n l) (hx : x.length = n) (v : Nat) : fnL (psL l x) v ≤ fnL x v := by
  rw [psL_fn n l x h hx]
  exact pss_le _ _ _
theorem chg_less (n : Nat) : ∀ (l : List (List Int)) (x : List Int), okL n l → x.length = n → (∀ v, 0 ≤ fnL x v) → chgL l x = true → tot (fnL (psL l x)) n < tot (fnL x) n
  | [], _, _, _, _, hc => absurd hc (by simp [chgL])
  | p :: l, x, h, hx, h0, hc => by
    obtain ⟨_, hp0, hp1⟩ := h p List.mem_cons_self
    have hs : fnL (stL x p) = stp (fnL x) ((rd p 0).toNat, (rd p 1).toNat) := stL_fn x p (by omega) (by omega)
    have hle : ∀ v, fnL (stL x p) v ≤ fnL x v := fun v => by rw [hs]; exact stp_le _ _ _
    have hl : (stL x p).length = n := by rw [stL_len]; exact hx
    have h0' : ∀ v, 0 ≤ fnL (stL x p) v := fun v => by
      rw [hs]
      unfold stp
      split
      · have := h0 (rd p 0).toNat
        have := h0 (rd p 1).toNat
        show 0 ≤ min (fnL x (rd p 0).toNat) (fnL x (rd p 1).toNat)
        omega
      · exact h0 v
    have e0 : rd x (rd p 0) = fnL x (rd p 0).toNat := rfl
    have e1 : rd x (rd p 1) = fnL x (rd p 1).toNat := rfl
    unfold chgL at hc
    rw [Bool.or_eq_true, Bool.or_eq_true, bne_iff_ne, bne_iff_ne] at hc
    show tot (fnL (psL l (stL x p))) n < _
    have hrest := tot_le _ _ (ps_le n l (stL x p) (okL_tl h) hl) n
    have hone := tot_le _ _ hle n
    rcases hc with (hc | hc) | hc
    · have h1 : fnL (stL x p) (rd p 0).toNat < fnL x (rd p 0).toNat := by
        rw [hs]
        unfold stp
        rw [if_pos (Or.inl rfl)]
        rw [e0, e1] at hc
        show min (fnL x (rd p 0).toNat) (fnL x (rd p 1).toNat) < _
        omega
      have := tot_lt _ _ hle _ h1 (h0' _) n (by omega)
      omega
    · have h1 : fnL (stL x p) (rd p 1).toNat < fnL x (rd p 1).toNat := by
        rw [hs]
        unfold stp
        rw [if_pos (Or.inr rfl)]
        rw [e0, e1] at hc
        show min (fnL x (rd p 0).toNat) (fnL x (rd p 1).toNat) < _
        omega
      have := tot_lt _ _ hle _ h1 (h0' _) n (by omega)
      omega
    · have := chg_less n l (stL x p) (okL_tl h) hl h0' hc
      omega
-- the specification's loops
theorem lst_eq (a b : Int) : spec_l1Least.f a b = some (min a b) := by
  unfold spec_l1Least.f
  split
  · rw [Int.min_eq_left (by omega)]
  · rw [Int.min_eq_right (by omega)]
theorem sg2 (n : Nat) (x1 : List (List Int)) (c d : Int) : ∀ (l b : List (List Int)) (x : List Int) (k : Nat), okL n l → x.length = n → (b ++ l).length ≤ 1000000 → l.length < k →
    spec_l6Groups.l2 k x1 x c d (b ++ l) (b ++ l).length b.length = spec_l6Groups.l1 (k - 1 - l.length) x1 (psL l x) c (wrap64 (d + 1))
  | [], b, x, k, _, _, _, hk => by
    obtain ⟨k, rfl⟩ : ∃ m, k = m + 1 := ⟨k - 1, by omega⟩
    rw [spec_l6Groups.l2, List.append_nil, if_neg (by omega)]
    rfl
  | p :: l, b, x, k, h, hx, hb, hk => by
    obtain ⟨k, rfl⟩ : ∃ m, k = m + 1 := ⟨k - 1, by omega⟩
    obtain ⟨h2, hp0, hp1⟩ := h p List.mem_cons_self
    rw [List.length_cons] at hk
    have hl2 := hb
    rw [List.length_append, List.length_cons] at hl2
    rw [spec_l6Groups.l2, if_pos (len_mid b p l), if_pos (by omega), if_pos (len_mid b p l), rdL_mid, if_pos (by omega), if_pos (by omega), if_pos (by omega), if_pos (by omega), if_pos (by omega), if_pos (by omega), lst_eq, next_mid b p (by omega)]
    simp only [Option.bind_some]
    have := sg2 n x1 c d l (b ++ [p]) (stL x p) k (okL_tl h) (by rw [stL_len]; exact hx) (by rw [List.append_assoc, List.singleton_append]; exact hb) (by omega)
    rw [List.append_assoc b [p] l, List.singleton_append] at this
    rw [show k + 1 - 1 - (p :: l).length = k - 1 - l.length by rw [List.length_cons]; omega]
    exact this
theorem sg1 (n : Nat) (ls : List (List Int)) (h : okL n ls) (hls : ls.length ≤ 1000000) (N : Nat) (hN : N ≤ 1000000) : ∀ (m : Nat) (x : List Int) (i k : Nat), x.length = n → i + m = N → m * (ls.length + 2) + 2 < k →
    spec_l6Groups.l1 k ls x N i = some (itL ls m x)
  | 0, x, i, k, _, hi, hk => by
    obtain ⟨k, rfl⟩ : ∃ m, k = m + 1 := ⟨k - 1, by omega⟩
    rw [spec_l6Groups.l1, if_neg (by omega)]
    rfl
  | m + 1, x, i, k, hx, hi, hk => by
    obtain ⟨k, rfl⟩ : ∃ m, k = m + 1 := ⟨k - 1, by omega⟩
    rw [Nat.add_mul, Nat.one_mul] at hk
    have hg := sg2 n ls N i ls [] x k h hx (by rw [List.nil_append]; omega) (by omega)
    rw [List.nil_append] at hg
    have hg2 : spec_l6Groups.l2 k ls x N i ls ls.length 0 = _ := hg
    rw [spec_l6Groups.l1, if_pos (by omega), hg2, w64 (by omega) (by omega), show ((i : Int) + 1) = ((i + 1 : Nat) : Int) by omega]
    exact sg1 n ls h hls N hN m (psL ls x) (i + 1) (k - 1 - ls.length) (by rw [psL_len]; exact hx) (by omega) (by omega)
def ups (n : Nat) : List Int := (List.range n).map fun i : Nat => (i : Int)
theorem ups_len (n : Nat) : (ups n).length = n := by simp [ups]
theorem ups_succ (n : Nat) : ups (n + 1) = ups n ++ [(n : Int)] := by simp [ups, List.range_succ]
theorem sg0 (n : Nat) (ls : List (List Int)) (hn : n ≤ 1000000) : ∀ (d i k : Nat), i + d = n → d < k → spec_l6Groups.l0 k n ls (ups i) i = spec_l6Groups.l1 (k - 1 - d) ls (ups n) n 0
  | 0, i, k, hi, hk => by
    obtain ⟨k, rfl⟩ : ∃ m, k = m + 1 := ⟨k - 1, by omega⟩
    have e : i = n := by omega
    subst e
    rw [spec_l6Groups.l0, if_neg (by omega), ups_len]
    rfl
  | d + 1, i, k, hi, hk => by
    obtain ⟨k, rfl⟩ : ∃ m, k = m + 1 := ⟨k - 1, by omega⟩
    have hl := ups_len i
    rw [spec_l6Groups.l0, if_pos (by omega), if_pos (by omega), ← ups_succ, w64 (by omega) (by omega), show ((i : Int) + 1) = ((i + 1 : Nat) : Int) by omega, sg0 n ls hn d (i + 1) k (by omega) (by omega), show k + 1 - 1 - (d + 1) = k - 1 - d by omega]
-- the program's loops
theorem mn_eq (a b : Int) : mn a b = min a b := by
  unfold mn
  split
  · rw [Int.min_eq_right (by omega)]
  · rw [Int.min_eq_left (by omega)]
theorem ig2 (n : Nat) (x1 : List (List Int)) : ∀ (l b : List (List Int)) (x : List Int) (t : Bool) (k : Nat), okL n l → x.length = n → (b ++ l).length ≤ 1000000 → l.length < k →
    impl_groups.l2 k x1 x t (b ++ l) (b ++ l).length b.length = impl_groups.l1 (k - 1 - l.length) x1 (psL l x) (t || chgL l x)
  | [], b, x, t, k, _, _, _, hk => by
    obtain ⟨k, rfl⟩ : ∃ m, k = m + 1 := ⟨k - 1, by omega⟩
    rw [impl_groups.l2, List.append_nil, if_neg (by omega)]
    show _ = impl_groups.l1 k x1 x (t || false)
    rw [Bool.or_false]
  | p :: l, b, x, t, k, h, hx, hb, hk => by
    obtain ⟨k, rfl⟩ : ∃ m, k = m + 1 := ⟨k - 1, by omega⟩
    obtain ⟨h2, hp0, hp1⟩ := h p List.mem_cons_self
    rw [List.length_cons] at hk
    have hl2 := hb
    rw [List.length_append, List.length_cons] at hl2
    rw [impl_groups.l2, if_pos (len_mid b p l), if_pos (by omega), if_pos (len_mid b p l), rdL_mid, if_pos (by omega), if_pos (by omega), if_pos (by omega), if_pos (by omega), if_pos (by omega), if_pos (by omega), mn_eq, next_mid b p (by omega)]
    have := ig2 n x1 l (b ++ [p]) (stL x p) (t || (rd x (rd p 0) != min (rd x (rd p 0)) (rd x (rd p 1))) || (rd x (rd p 1) != min (rd x (rd p 0)) (rd x (rd p 1)))) k (okL_tl h) (by rw [stL_len]; exact hx) (by rw [List.append_assoc, List.singleton_append]; exact hb) (by omega)
    rw [List.append_assoc b [p] l, List.singleton_append] at this
    rw [show k + 1 - 1 - (p :: l).length = k - 1 - l.length by rw [List.length_cons]; omega]
    refine Eq.trans this ?_
    show _ = impl_groups.l1 (k - 1 - l.length) x1 (psL l (stL x p)) (t || (((rd x (rd p 0) != min (rd x (rd p 0)) (rd x (rd p 1))) || (rd x (rd p 1) != min (rd x (rd p 0)) (rd x (rd p 1)))) || chgL l (stL x p)))
    congr 1
    simp only [Bool.or_assoc]
theorem ig1 (n : Nat) (ls : List (List Int)) (h : okL n ls) (hls : ls.length ≤ 1000000) : ∀ (T : Nat) (x : List Int) (k : Nat), x.length = n → (∀ v, 0 ≤ fnL x v) → tot (fnL x) n < T → T * (ls.length + 2) + 2 < k →
    ∃ y m, impl_groups.l1 k ls x true = some y ∧ y.length = n ∧ fnL y = itr (prs ls) m (fnL x) ∧ ∀ v, pss (prs ls) (fnL y) v = fnL y v
  | 0, _, _, _, _, hT, _ => absurd hT (by omega)
  | T + 1, x, k, hx, h0, hT, hk => by
    obtain ⟨k, rfl⟩ : ∃ m, k = m + 1 := ⟨k - 1, by omega⟩
    rw [Nat.add_mul, Nat.one_mul] at hk
    have hg := ig2 n ls ls [] x false k h hx (by rw [List.nil_append]; omega) (by omega)
    rw [List.nil_append, Bool.false_or] at hg
    have hg2 : impl_groups.l2 k ls x false ls ls.length 0 = _ := hg
    rw [impl_groups.l1, if_pos rfl, hg2]
    have hps := psL_fn n ls x h hx
    cases hc : chgL ls x
    · obtain ⟨q, hq⟩ : ∃ m, k - 1 - ls.length = m + 1 := ⟨k - 1 - ls.length - 1, by omega⟩
      have e := chg_same ls x hc
      rw [e] at hps
      rw [hq, impl_groups.l1, if_neg (by decide), e]
      exact ⟨x, 0, rfl, hx, rfl, fun v => by rw [← hps]⟩
    · have hl : (psL ls x).length = n := by rw [psL_len]; exact hx
      have h0' : ∀ v, 0 ≤ fnL (psL ls x) v := fun v => by
        rw [hps]
        exact pss_closed (prs ls) (fun _ => True) 0 (fnL x) (fun _ _ => Iff.rfl) (fun v _ => h0 v) v trivial
      have := chg_less n ls x h hx h0 hc
      obtain ⟨y, m, hy, hyl, hym, hyf⟩ := ig1 n ls h hls T (psL ls x) (k - 1 - ls.length) hl h0' (by omega) (by omega)
      exact ⟨y, m + 1, hy, hyl, by rw [hym, hps]; rfl, hyf⟩
theorem ig0 (n : Nat) (ls : List (List Int)) (hn : n ≤ 1000000) : ∀ (d i k : Nat), i + d = n → d < k → impl_groups.l0 k ls (ups i ++ List.replicate d 0) n i = impl_groups.l1 (k - 1 - d) ls (ups n) true
  | 0, i, k, hi, hk => by
    obtain ⟨k, rfl⟩ : ∃ m, k = m + 1 := ⟨k - 1, by omega⟩
    have e : i = n := by omega
    subst e
    rw [impl_groups.l0, if_neg (by omega), List.replicate_zero, List.append_nil]
    rfl
  | d + 1, i, k, hi, hk => by
    obtain ⟨k, rfl⟩ : ∃ m, k = m + 1 := ⟨k - 1, by omega⟩
    have hl := ups_len i
    have e : (ups i ++ List.replicate (d + 1) 0).set ((i : Int)).toNat (i : Int) = ups (i + 1) ++ List.replicate d 0 := by
      rw [Int.toNat_natCast, List.set_append_right _ _ (by omega), hl, Nat.sub_self, List.replicate_succ, List.set_cons_zero, ups_succ, List.append_assoc, List.singleton_append]
    rw [impl_groups.l0, if_pos (by omega), if_pos (by omega), if_pos (by rw [List.length_append, List.length_replicate, hl]; omega), e, w64 (by omega) (by omega), show ((i : Int) + 1) = ((i + 1 : Nat) : Int) by omega, ig0 n ls hn d (i + 1) k (by omega) (by omega), show k + 1 - 1 - (d + 1) = k - 1 - d by omega]
theorem ups_fn (n v : Nat) (hv : v < n) : fnL (ups n) v = v := by
  unfold fnL ups
  rw [List.getD_eq_getElem?_getD, List.getElem?_map, List.getElem?_range hv]
  rfl
theorem ups_nn (n v : Nat) : 0 ≤ fnL (ups n) v := by
  by_cases h : v < n
  · rw [ups_fn n v h]; omega
  · unfold fnL
    rw [List.getD_eq_getElem?_getD, List.getElem?_eq_none (by rw [ups_len]; omega)]
    exact Int.le_refl _
theorem tot_ups (n : Nat) : ∀ m, m ≤ n → tot (fnL (ups n)) m ≤ m * n
  | 0, _ => Nat.zero_le _
  | m + 1, h => by
    have := tot_ups n m (by omega)
    show tot (fnL (ups n)) m + (fnL (ups n) m).toNat ≤ _
    rw [ups_fn n m (by omega), Nat.add_mul, Nat.one_mul]
    omega
/-- Both find the same groups. -/
theorem groups_eq (n : Nat) (hn : n ≤ 6) (ls : List (List Int)) (h : okL n ls) (hls : ls.length ≤ 15) : ∃ g, g.length = n ∧ (∀ i : Nat, i < n → 0 ≤ rd g i ∧ rd g i < n) ∧ ∀ k, 2000 < k → spec_l6Groups.f k n ls = some g ∧ impl_groups.f k n ls = some g := by
  have hm : n * n ≤ 6 * 6 := Nat.mul_le_mul hn hn
  have hL := ups_len n
  have ht := tot_ups n n (Nat.le_refl _)
  have hT : 37 * (ls.length + 2) ≤ 37 * 17 := Nat.mul_le_mul_left _ (by omega)
  have hnl : n * (ls.length + 2) ≤ 6 * 17 := Nat.mul_le_mul hn (by omega)
  have hspec : ∀ k, 2000 < k → spec_l6Groups.f k n ls = some (itL ls n (ups n)) := by
    intro k hk
    unfold spec_l6Groups.f
    have := sg0 n ls (by omega) n 0 k (by omega) (by omega)
    have e : spec_l6Groups.l0 k n ls [] 0 = _ := this
    rw [e]
    have := sg1 n ls h (by omega) n (by omega) n (ups n) 0 (k - 1 - n) hL (by omega) (by omega)
    exact this
  have key : ∀ k, 2000 < k → impl_groups.f k n ls = some (itL ls n (ups n)) := by
    intro k hk
    obtain ⟨y, m, hy, hyl, hym, hyf⟩ := ig1 n ls h (by omega) 37 (ups n) (k - 1 - n) hL (ups_nn n) (by omega) (by omega)
    have e : itL ls n (ups n) = y := by
      refine fnL_inj _ _ (by rw [itL_len, hL, hyl]) fun v hv => ?_
      rw [itL_len, hL] at hv
      rw [itL_fn n ls h n (ups n) hL]
      exact n_passes (prs ls) n (prs_in n ls h) (fnL (ups n)) (fnL y) hyf m hym.symm v hv
    unfold impl_groups.f
    rw [if_pos (by omega), if_pos (by omega)]
    simp only [Option.bind_some, Int.toNat_natCast, List.length_replicate]
    have := ig0 n ls (by omega) n 0 k (by omega) (by omega)
    have e2 : impl_groups.l0 k ls (List.replicate n 0) n 0 = _ := this
    rw [e2, e]
    exact hy
  refine ⟨itL ls n (ups n), by rw [itL_len, hL], fun i hi => ?_, fun k hk => ⟨hspec k hk, key k hk⟩⟩
  have e : rd (itL ls n (ups n)) i = fnL (itL ls n (ups n)) i := by simp [rd, fnL]
  rw [e, itL_fn n ls h n (ups n) hL]
  have h1 := itr_le (prs ls) n (fnL (ups n)) i
  rw [ups_fn n i hi] at h1
  have h2 := itr_closed (prs ls) (fun _ => True) 0 (fun _ _ => Iff.rfl) n (fnL (ups n)) (fun v _ => ups_nn n v) i trivial
  omega
-- the compares
theorem same_eq : ∀ (k : Nat) (a b : List Int) (c d : Int), slices_Equal_int_int.l0 k a b c d = spec_l1Same.l0 k a b c d
  | 0, _, _, _, _ => by simp [slices_Equal_int_int.l0, spec_l1Same.l0]
  | k + 1, a, b, c, d => by rw [slices_Equal_int_int.l0, spec_l1Same.l0, same_eq k]
theorem same_tot (a b : List Int) (hl : a.length = b.length) (hn : a.length ≤ 1048576) : ∀ (d k i : Nat), i + d = a.length → d < k → ∃ v, spec_l1Same.l0 k a b a.length i = some v
  | 0, k, i, hi, hk => by
    obtain ⟨k, rfl⟩ : ∃ m, k = m + 1 := ⟨k - 1, by omega⟩
    rw [spec_l1Same.l0, if_neg (by omega)]
    exact ⟨true, rfl⟩
  | d + 1, k, i, hi, hk => by
    obtain ⟨k, rfl⟩ : ∃ m, k = m + 1 := ⟨k - 1, by omega⟩
    obtain ⟨v, hv⟩ := same_tot a b hl hn d k (i + 1) (by omega) (by omega)
    rw [spec_l1Same.l0, if_pos (by omega), if_pos (by omega), if_pos (by omega), if_pos (by omega), w64 (by omega) (by omega), show ((i : Int) + 1) = ((i + 1 : Nat) : Int) by omega, hv]
    split
    · exact ⟨v, rfl⟩
    · exact ⟨false, rfl⟩
theorem samef_tot (a b : List Int) (k : Nat) (hn : a.length ≤ 1048576) (hk : 1048577 < k) : ∃ v, spec_l1Same.f k a b = some v := by
  unfold spec_l1Same.f
  by_cases e : a.length = b.length
  · rw [if_pos (by omega)]
    exact same_tot a b e hn a.length k 0 (by omega) (by omega)
  · rw [if_neg (by omega)]
    exact ⟨false, rfl⟩
theorem all_eq (g : List Int) (l0 l1 l2 : List (List Int)) (l3 : List S61) (hg : g.length = l1.length) : ∀ (k : Nat) (i : Int), impl_AllSame.l0 k g l1.length i l0 l1 l2 l3 = spec_AllSame.l0 k g l1 l1.length i l0 l1 l2 l3
  | 0, _ => by simp [impl_AllSame.l0, spec_AllSame.l0]
  | k + 1, i => by
    rw [impl_AllSame.l0, spec_AllSame.l0, all_eq g l0 l1 l2 l3 hg k, hg]
    unfold slices_Equal_int_int.f spec_l1Same.f
    simp only [same_eq]
theorem all_tot (g : List Int) (l0 l1 l2 : List (List Int)) (l3 : List S61) (hg : g.length = l1.length) (hb : ∀ r ∈ l1, r.length ≤ 1048576) (hn : l1.length ≤ 1048576) (hr : ∀ i : Nat, i < l1.length → 0 ≤ rd g i ∧ rd g i < l1.length) : ∀ (d k i : Nat), i + d = l1.length → d + 1048578 < k →
    ∃ v, spec_AllSame.l0 k g l1 l1.length i l0 l1 l2 l3 = some (v, true)
  | 0, k, i, hi, hk => by
    obtain ⟨k, rfl⟩ : ∃ m, k = m + 1 := ⟨k - 1, by omega⟩
    rw [spec_AllSame.l0, if_neg (by omega)]
    exact ⟨true, rfl⟩
  | d + 1, k, i, hi, hk => by
    obtain ⟨k, rfl⟩ : ∃ m, k = m + 1 := ⟨k - 1, by omega⟩
    obtain ⟨v, hv⟩ := all_tot g l0 l1 l2 l3 hg hb hn hr d k (i + 1) (by omega) (by omega)
    obtain ⟨h0, h1⟩ := hr i (by omega)
    have e := rdL_at l1 i (by omega)
    have hi2 : i < l1.length := by omega
    obtain ⟨t, ht⟩ := samef_tot (rd_L1 l1 i) (rd_L1 l1 (rd g i)) k (by rw [e]; exact hb _ (List.getElem_mem hi2)) (by omega)
    rw [spec_AllSame.l0, if_pos (by omega), if_pos (by omega), if_pos (by omega), if_pos (by omega), if_pos h0, if_pos h1, ht, w64 (by omega) (by omega), show ((i : Int) + 1) = ((i + 1 : Nat) : Int) by omega, hv]
    simp only [Option.bind_some]
    split
    · exact ⟨v, rfl⟩
    · exact ⟨false, rfl⟩
theorem FnExactAllSame : laws_FnExactAllSame.PureS := by
  intro l0 l1 l2 l3 ⟨n0, a0⟩ ⟨n1, a1⟩ ⟨n2, a2⟩ ⟨n3, _⟩
  obtain ⟨K, hK⟩ : ∃ K, K = l0.length + l1.length + l2.length + 20000000 := ⟨_, rfl⟩
  refine ⟨K + 1, ?_⟩
  unfold laws_FnExactAllSame.f
  obtain ⟨s, hs, hd⟩ := szF l0 l1 l2 l3 (K + 1) ⟨by omega, fun r hr => by have := (a0 r hr).1; omega⟩ ⟨by omega, fun r hr => by have := (a1 r hr).1; omega⟩ ⟨by omega, fun r hr => by have := (a2 r hr).1; omega⟩ (by omega) (by omega)
  rw [hs]
  simp only [Option.bind_some]
  by_cases c : s < 0
  · rw [if_pos c]
  rw [if_neg c]
  rcases hd with hd | ⟨_, h0, h1, h2, h3⟩
  · exact absurd hd c
  have hm : (l3.map cv78).length = l3.length := List.length_map _
  rw [toF l0 l1 l2 l3 (K + 1) h0 h1 h2 h3 (by omega)]
  simp only [Option.bind_some]
  obtain ⟨v, hS, hI⟩ : ∃ v, spec_AllSame.f (K + 1) l0 l1 l2 (l3.map cv78) = some v ∧ impl_AllSame.f (K + 1) l0 l1 l2 (l3.map cv78) = some v := by
    unfold spec_AllSame.f impl_AllSame.f
    rw [spec_GF l0 l1 l2 _ (K + 1) h0.1 h1.1 h2.1 (by omega) h1.2 h2.2 (by omega), impl_GF l0 l1 l2 _ (K + 1) h0.1 h1.1 h2.1 (by omega) h1.2 h2.2 (by omega)]
    simp only [Option.bind_some]
    cases hg : goodF l0 l1 l2 (l3.map cv78)
    · exact ⟨_, rfl, rfl⟩
    · rw [if_pos rfl, if_pos rfl]
      have hL : linksB (l1.length : Int) l0 = true := by
        unfold goodF at hg
        simp only [Bool.and_eq_true] at hg
        exact hg.1
      obtain ⟨hn, hl, ht, hin⟩ := links_ok _ _ hL
      obtain ⟨g, hgl, hgr, hge⟩ := groups_eq l1.length (by omega) l0 (fun l hm => ⟨ht l hm, (hin l hm).1, (hin l hm).2.1⟩) hl
      obtain ⟨e1, e2⟩ := hge (K + 1) (by omega)
      rw [e1, e2]
      simp only [Option.bind_some]
      rw [hgl, all_eq g l0 l1 l2 _ hgl]
      obtain ⟨w, hw⟩ := all_tot g l0 l1 l2 (l3.map cv78) hgl h1.2 h1.1 hgr l1.length (K + 1) 0 (by omega) (by omega)
      have hw2 : spec_AllSame.l0 (K + 1) g l1 l1.length 0 l0 l1 l2 (l3.map cv78) = _ := hw
      exact ⟨_, hw2, hw2⟩
  rw [hS, hI]
  simp only [Option.bind_some]
  rw [bne_self_eq_false, if_neg (by decide), bne_self_eq_false, laws_FnExactAllSame.j0, if_neg (by decide), toF l0 l1 l2 l3 K h0 h1 h2 h3 (by omega)]
  simp only [Option.bind_some]
  rw [eqF l0 l1 l2 _ K h0 h1 h2 (by omega) (by omega)]
  simp only [Option.bind_some, if_true]

end Go.Proofs.Ytdbnjjpkpaifcaa.Pure
