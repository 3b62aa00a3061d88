/- FnExactNewFlood answers true for each number of nodes and each list of links. No condition beyond the row's own bounds. -/
import Derived.Test.YtdbnjjpkpaifcaaSFnExactNewFlood
namespace Go.Proofs.Ytdbnjjpkpaifcaa.Pure
open Go.RowKit Go.Proofs.Ytdbnjjpkpaifcaa.PFnExactNewFlood Go.Proofs.YtdbnjjpkpaifcaaW.PrintWords Go.Proofs.YtdbnjjpkpaifcaaW.PrintLast
set_option linter.unusedVariables false
set_option linter.unusedSimpArgs false

-- w64
theorem w64 {x : Int} (h0 : -9223372036854775808 ≤ x) (h1 : x ≤ 9223372036854775807) : wrap64 x = x := by
  unfold wrap64
  omega
theorem tm {x y : Int} (h0 : 0 ≤ x) : Int.tmod x y = x % y := Int.tmod_eq_emod_of_nonneg h0
theorem wf64 {x : Int} (h : (Lit.int .i64 x).wf = true) : -9223372036854775808 ≤ x ∧ x ≤ 9223372036854775807 := by
  simp [Lit.wf, IntKind.min, IntKind.max, IntKind.signed, IntKind.bits] at h
  omega

-- helps
theorem set_take {α : Type} (m L : List α) (i : Nat) (hi : i < L.length) (hm : m.length = L.length) (ht : m.take i = L.take i) (v : α) (hv : L[i]? = some v) : (m.set i v).take (i + 1) = L.take (i + 1) := by
  rw [List.take_set, List.take_succ_eq_append_getElem (by omega), List.take_succ_eq_append_getElem hi, ht, List.set_append_right _ _ (by rw [List.length_take]; omega)]
  rw [List.length_take, show i - min i L.length = 0 by omega]
  rw [List.getElem?_eq_getElem hi] at hv
  rw [Option.some.inj hv]
  rfl
/-- From some number of rounds on: one number for a pair. -/
theorem ev_at {α : Type} {g : Nat → Option α} {r : α} (h : Ev g r) : ∃ K, ∀ k, K ≤ k → g k = some r := h
theorem ev_some {α : Type} {g : Nat → Option α} {r : α} (h : ∀ k, g k = some r) : Ev g r := ⟨0, fun k _ => h k⟩
theorem ev_ge {α : Type} {g : Nat → Option α} {r : α} (K : Nat) (h : ∀ k, K ≤ k → g k = some r) : Ev g r := ⟨K, h⟩

-- put
-- a number put to its place; the neighbours of a node, told twice
/-- A number put to its place, once. -/
def put : List Int → Int → List Int
  | [], n => [n]
  | x :: l, n => if x < n then x :: put l n else if x = n then x :: l else n :: x :: l
theorem put_mem (n y : Int) : ∀ l : List Int, y ∈ put l n ↔ y ∈ l ∨ y = n
  | [] => by simp [put]
  | x :: l => by
    unfold put
    split
    · rw [List.mem_cons, put_mem n y l, List.mem_cons]
      constructor
      · rintro (h | h | h)
        · exact .inl (.inl h)
        · exact .inl (.inr h)
        · exact .inr h
      · rintro ((h | h) | h)
        · exact .inl h
        · exact .inr (.inl h)
        · exact .inr (.inr h)
    · split
      · rename_i h
        subst h
        rw [List.mem_cons]
        exact ⟨fun h => .inl h, fun h => h.elim id .inl⟩
      · rw [List.mem_cons]
        exact ⟨fun h => h.elim .inr .inl, fun h => h.elim .inr .inl⟩
theorem put_up (n : Int) : ∀ l : List Int, l.Pairwise (· < ·) → (put l n).Pairwise (· < ·)
  | [], _ => by simp [put]
  | x :: l, h => by
    obtain ⟨h1, h2⟩ := List.pairwise_cons.1 h
    unfold put
    split
    · rename_i hx
      refine List.pairwise_cons.2 ⟨fun y hy => ?_, put_up n l h2⟩
      rcases (put_mem n y l).1 hy with hy | rfl
      · exact h1 y hy
      · exact hx
    · split
      · exact h
      · rename_i a b
        refine List.pairwise_cons.2 ⟨fun y hy => ?_, h⟩
        have : n < x := by omega
        rcases List.mem_cons.1 hy with rfl | hy
        · exact this
        · have := h1 y hy; omega
theorem up_ext : ∀ l m : List Int, l.Pairwise (· < ·) → m.Pairwise (· < ·) → (∀ x, x ∈ l ↔ x ∈ m) → l = m
  | [], [], _, _, _ => rfl
  | [], y :: m, _, _, h => by have := (h y).2 List.mem_cons_self; simp at this
  | x :: l, [], _, _, h => by have := (h x).1 List.mem_cons_self; simp at this
  | x :: l, y :: m, hl, hm, h => by
    obtain ⟨a1, a2⟩ := List.pairwise_cons.1 hl
    obtain ⟨b1, b2⟩ := List.pairwise_cons.1 hm
    have e : x = y := by
      rcases List.mem_cons.1 ((h x).1 List.mem_cons_self) with h1 | h1
      · exact h1
      · rcases List.mem_cons.1 ((h y).2 List.mem_cons_self) with h2 | h2
        · exact h2.symm
        · have := b1 x h1; have := a1 y h2; omega
    subst e
    refine congrArg (x :: ·) (up_ext l m a2 b2 fun z => ⟨fun hz => ?_, fun hz => ?_⟩)
    · rcases List.mem_cons.1 ((h z).1 (List.mem_cons_of_mem _ hz)) with h1 | h1
      · have := a1 z hz; omega
      · exact h1
    · rcases List.mem_cons.1 ((h z).2 (List.mem_cons_of_mem _ hz)) with h1 | h1
      · have := b1 z hz; omega
      · exact h1
/-- A link's end put in. -/
def nearS (a : Int) (o : List Int) (l : List Int) : List Int :=
  if rd l 1 = a then put (if rd l 0 = a then put o (rd l 1) else o) (rd l 0) else (if rd l 0 = a then put o (rd l 1) else o)
def nearL (a : Int) (ls : List (List Int)) : List Int := ls.foldl (nearS a) []
def rowB (a : Int) (ls : List (List Int)) (b : Int) : Bool := ls.any fun l => decide (rd l 0 = min a b) && decide (rd l 1 = max a b)
def rowL (n : Nat) (a : Int) (ls : List (List Int)) : List Int := ((List.range n).map fun b : Nat => (b : Int)).filter (rowB a ls)
theorem nearS_mem (a : Int) (o l : List Int) (y : Int) : y ∈ nearS a o l ↔ y ∈ o ∨ (rd l 0 = a ∧ y = rd l 1) ∨ (rd l 1 = a ∧ y = rd l 0) := by
  unfold nearS
  by_cases h0 : rd l 0 = a <;> by_cases h1 : rd l 1 = a <;> simp only [h0, h1, if_true, if_false, put_mem, true_and, false_and, or_false] <;> simp [or_assoc]
theorem near_fold (a : Int) (y : Int) : ∀ (ls : List (List Int)) (o : List Int), y ∈ ls.foldl (nearS a) o ↔ y ∈ o ∨ ∃ l ∈ ls, (rd l 0 = a ∧ y = rd l 1) ∨ (rd l 1 = a ∧ y = rd l 0)
  | [], o => by simp
  | l :: ls, o => by
    rw [List.foldl_cons, near_fold a y ls, nearS_mem]
    simp only [List.mem_cons, exists_eq_or_imp, or_assoc]
theorem near_up (a : Int) : ∀ (ls : List (List Int)) (o : List Int), o.Pairwise (· < ·) → (ls.foldl (nearS a) o).Pairwise (· < ·)
  | [], o, h => h
  | l :: ls, o, h => by
    rw [List.foldl_cons]
    refine near_up a ls _ ?_
    unfold nearS
    by_cases h0 : rd l 0 = a <;> by_cases h1 : rd l 1 = a <;> simp only [h0, h1, if_true, if_false] <;> first | exact put_up _ _ (put_up _ _ h) | exact put_up _ _ h | exact h
theorem range_up : ∀ n : Nat, ((List.range n).map fun b : Nat => (b : Int)).Pairwise (· < ·) := by
  intro n
  rw [List.pairwise_map]
  exact List.Pairwise.imp (fun h => by omega) List.pairwise_lt_range
theorem near_row (n : Nat) (a : Int) (ls : List (List Int)) (h : ∀ l ∈ ls, (0 ≤ rd l 0 ∧ rd l 0 < n) ∧ (0 ≤ rd l 1 ∧ rd l 1 < n) ∧ rd l 0 < rd l 1) : nearL a ls = rowL n a ls := by
  refine up_ext _ _ (near_up a ls [] List.Pairwise.nil) (List.Pairwise.filter _ (range_up n)) fun x => ?_
  unfold nearL rowL
  rw [near_fold, List.mem_filter]
  simp only [List.not_mem_nil, false_or, rowB, List.any_eq_true, Bool.and_eq_true, decide_eq_true_eq, List.mem_map, List.mem_range]
  constructor
  · rintro ⟨l, hl, h2⟩
    obtain ⟨h3, h4, h5⟩ := h l hl
    refine ⟨?_, l, hl, ?_⟩
    · rcases h2 with ⟨_, rfl⟩ | ⟨_, rfl⟩
      · exact ⟨(rd l 1).toNat, by omega, by omega⟩
      · exact ⟨(rd l 0).toNat, by omega, by omega⟩
    · omega
  · rintro ⟨_, l, hl, h2, h6⟩
    obtain ⟨h3, h4, h5⟩ := h l hl
    exact ⟨l, hl, by omega⟩

-- toints
theorem toI_l (l : List Int) (hn : l.length ≤ 35184372088832) (d : Nat) : ∀ (k i : Nat) (m : List Int), i + d = l.length → m.length = l.length → m.take i = l.take i → d < k →
    laws_toIntS.l0 k l m i = some l := by
  induction d with
  | zero =>
    intro k i m h hm ht hk
    obtain ⟨k, rfl⟩ : ∃ m, k = m + 1 := ⟨k - 1, by omega⟩
    simp only [laws_toIntS.l0]
    rw [if_neg (by omega)]
    obtain rfl : i = l.length := by omega
    rw [List.take_length, ← hm, List.take_length] at ht
    rw [ht]
  | succ d ih =>
    intro k i m h hm ht hk
    obtain ⟨k, rfl⟩ : ∃ m, k = m + 1 := ⟨k - 1, by omega⟩
    simp only [laws_toIntS.l0]
    rw [if_pos (by omega), if_pos (by omega), if_pos (by omega), w64 (by omega) (by omega), show ((i : Int) + 1) = ((i + 1 : Nat) : Int) by omega]
    refine ih k (i + 1) _ (by omega) (by rw [List.length_set]; exact hm) ?_ (by omega)
    unfold rd
    rw [Int.toNat_natCast, List.take_set, List.take_succ_eq_append_getElem (by omega), List.take_succ_eq_append_getElem (by omega), ht,
      List.set_append_right _ _ (by rw [List.length_take]; omega)]
    simp [List.length_take, List.getD_eq_getElem?_getD, show i < l.length by omega, show min i l.length = i by omega]
theorem toI (l : List Int) (k : Nat) (hn : l.length ≤ 35184372088832) (hk : l.length < k) : laws_toIntS.f k l = some l := by
  unfold laws_toIntS.f
  rw [if_pos (by omega), if_pos (by omega)]
  exact toI_l l hn l.length k 0 _ (by omega) (by simp) (by simp) hk

-- upfrom
/-- n, n + 1, .., in so many places. -/
def upFrom (m : Int) (n : Nat) : List Int := (List.range n).map fun i : Nat => m + i
theorem upFrom_len (m : Int) (n : Nat) : (upFrom m n).length = n := by simp [upFrom]
theorem rd_nat (l : List Int) (i : Nat) : rd l i = l.getD i 0 := by simp [rd]
theorem rd_upFrom (m : Int) (n i : Nat) (h : i < n) : rd (upFrom m n) i = m + i := by
  simp [rd, upFrom, h]

-- eqi
theorem eqI_l (a b : List Int) (hl : a.length = b.length) (hn : a.length ≤ 4611686018427387904) (d : Nat) : ∀ (k i : Nat), i + d = a.length → d < k →
    laws_eqIntS.l0 k a b i = some (decide (a.drop i = b.drop i)) := by
  induction d with
  | zero =>
    intro k i h hk
    obtain ⟨k, rfl⟩ : ∃ m, k = m + 1 := ⟨k - 1, by omega⟩
    simp only [laws_eqIntS.l0]
    rw [if_neg (by omega), List.drop_of_length_le (by omega), List.drop_of_length_le (by omega)]
    simp
  | succ d ih =>
    intro k i h hk
    obtain ⟨k, rfl⟩ : ∃ m, k = m + 1 := ⟨k - 1, by omega⟩
    have h1 := ih k (i + 1) (by omega) (by omega)
    simp only [laws_eqIntS.l0]
    rw [if_pos (by omega), if_pos (by omega), if_pos (by omega), rd_nat, rd_nat, w64 (by omega) (by omega)]
    have ea : a.drop i = a.getD i 0 :: a.drop (i + 1) := by
      rw [List.getD_eq_getElem?_getD, List.getElem?_eq_getElem (by omega)]
      exact List.drop_eq_getElem_cons (by omega)
    have eb : b.drop i = b.getD i 0 :: b.drop (i + 1) := by
      rw [List.getD_eq_getElem?_getD, List.getElem?_eq_getElem (by omega)]
      exact List.drop_eq_getElem_cons (by omega)
    by_cases e : a.getD i 0 = b.getD i 0
    · rw [if_pos e]
      rw [show ((i : Int) + 1) = ((i + 1 : Nat) : Int) by omega, h1, ea, eb, e]
      simp
    · rw [if_neg e, ea, eb, decide_eq_false (fun h => e (List.cons.inj h).1)]
theorem eqI (a b : List Int) (k : Nat) (hn : a.length ≤ 4611686018427387904) (hk : a.length < k) : laws_eqIntS.f k a b = some (decide (a = b)) := by
  unfold laws_eqIntS.f
  by_cases hl : a.length = b.length
  · rw [if_pos (by omega)]
    simpa using eqI_l a b hl hn a.length k 0 (by omega) hk
  · rw [if_neg (by omega)]
    have : a ≠ b := fun e => hl (by rw [e])
    simp [this]

-- intss0(rd_L1)
theorem rdL_at (l : List (List Int)) (i : Nat) (h : i < l.length) : rd_L1 l i = l[i] := by
  simp [rd_L1, List.getD_eq_getElem?_getD, List.getElem?_eq_getElem h]
theorem rdL_mid (a : List (List Int)) (x : List Int) (b : List (List Int)) : rd_L1 (a ++ x :: b) (a.length : Int) = x := by
  rw [rdL_at _ _ (by simp)]
  simp
theorem setL_mid (a : List (List Int)) (x y : List Int) (b : List (List Int)) : (a ++ x :: b).set ((a.length : Int)).toNat y = (a ++ [y]) ++ b := by
  rw [Int.toNat_natCast, List.set_append_right _ _ (Nat.le_refl _), Nat.sub_self]
  simp
theorem len_mid {α : Type} (a : List α) (x : α) (b : List α) : (a.length : Int) < ((a ++ x :: b).length : Int) := by
  rw [List.length_append, List.length_cons]; omega
theorem next_mid {α : Type} (a : List α) (x : α) (h : a.length ≤ 4611686018427387904) : wrap64 ((a.length : Int) + 1) = ((a ++ [x]).length : Int) := by
  rw [w64 (by omega) (by omega), List.length_append, List.length_singleton]; omega
theorem szSS_l : ∀ (l a : List (List Int)) (m : Int) (k : Nat), (∀ x ∈ l, x.length ≤ 140737488351232) → 0 ≤ m ∧ m ≤ 1048576 → (a ++ l).length ≤ 140737488351232 → l.length < k →
    ∃ r, laws_szIntSS.l0 k (a ++ l) m a.length = some r ∧ (r < 0 ∨ (0 ≤ r ∧ ∀ x ∈ l, x.length ≤ 1048576))
  | [], a, m, k, _, hm, _, hk => by
    obtain ⟨k, rfl⟩ : ∃ m, k = m + 1 := ⟨k - 1, by omega⟩
    simp only [laws_szIntSS.l0, List.append_nil]
    rw [if_neg (by omega)]
    exact ⟨m, rfl, Or.inr ⟨hm.1, fun x hx => absurd hx (List.not_mem_nil)⟩⟩
  | x :: l, a, m, k, hb, hm, hl, hk => by
    obtain ⟨k, rfl⟩ : ∃ m, k = m + 1 := ⟨k - 1, by omega⟩
    have hx := hb x List.mem_cons_self
    have ha : a.length ≤ 140737488351232 := by rw [List.length_append] at hl; omega
    rw [List.length_cons] at hk
    simp only [laws_szIntSS.l0]
    rw [if_pos (len_mid a x l), if_pos (by omega), rdL_mid, next_mid a x (by omega)]
    unfold laws_szIntS.f
    rw [w64 (by omega) (by omega)]
    by_cases h0 : m - (x.length : Int) < 0
    · rw [if_pos h0]
      exact ⟨-1, rfl, Or.inl (by omega)⟩
    · rw [if_neg h0]
      simp only [Option.bind_some]
      rw [if_neg h0]
      have h := szSS_l l (a ++ [x]) (m - (x.length : Int)) k (fun y hy => hb y (List.mem_cons_of_mem _ hy)) (by omega) (by rw [List.append_assoc, List.singleton_append]; exact hl) (by omega)
      rw [List.append_assoc, List.singleton_append] at h
      obtain ⟨r, hr, hd⟩ := h
      refine ⟨r, hr, ?_⟩
      rcases hd with hd | ⟨hd, hx2⟩
      · exact Or.inl hd
      · refine Or.inr ⟨hd, fun y hy => ?_⟩
        rcases List.mem_cons.1 hy with rfl | hy
        · omega
        · exact hx2 y hy
theorem szSS_any (l : List (List Int)) (m : Int) (k : Nat) (hm : 0 ≤ m ∧ m ≤ 1048576) (hn : l.length ≤ 140737488351232) (hl : ∀ x ∈ l, x.length ≤ 140737488351232) (hk : l.length < k) :
    ∃ r, laws_szIntSS.f k l m = some r ∧ (r < 0 ∨ (0 ≤ r ∧ l.length ≤ 1048576 ∧ ∀ x ∈ l, x.length ≤ 1048576)) := by
  unfold laws_szIntSS.f
  rw [w64 (by omega) (by omega)]
  by_cases h : m - (l.length : Int) < 0
  · rw [if_pos h]
    exact ⟨-1, rfl, Or.inl (by omega)⟩
  · rw [if_neg h]
    obtain ⟨r, hr, hd⟩ := szSS_l l [] (m - (l.length : Int)) k hl (by omega) hn hk
    refine ⟨r, hr, ?_⟩
    rcases hd with hd | ⟨hd, hx⟩
    · exact Or.inl hd
    · exact Or.inr ⟨hd, by omega, hx⟩
theorem toSS_l (B : Nat) (hB : B ≤ 35184372088832) : ∀ (l a m : List (List Int)) (k : Nat), (∀ x ∈ l, x.length ≤ B) → m.length = l.length → (a ++ l).length ≤ 140737488351232 → l.length + B + 1 < k →
    laws_toIntSS.l0 k (a ++ l) (a ++ m) a.length = some (a ++ l)
  | [], a, m, k, _, hm, _, hk => by
    obtain ⟨k, rfl⟩ : ∃ m, k = m + 1 := ⟨k - 1, by omega⟩
    obtain rfl := List.eq_nil_of_length_eq_zero hm
    simp only [laws_toIntSS.l0, List.append_nil]
    rw [if_neg (by omega)]
  | x :: l, a, [], k, _, hm, _, _ => by simp at hm
  | x :: l, a, y :: m, k, hb, hm, hl, hk => by
    obtain ⟨k, rfl⟩ : ∃ m, k = m + 1 := ⟨k - 1, by omega⟩
    have hx := hb x List.mem_cons_self
    have ha : a.length ≤ 140737488351232 := by rw [List.length_append] at hl; omega
    rw [List.length_cons] at hk
    simp only [laws_toIntSS.l0]
    rw [if_pos (len_mid a x l), if_pos (by omega), rdL_mid, toI x k (by omega) (by omega)]
    simp only [Option.bind_some]
    rw [if_pos (len_mid a y m), setL_mid, next_mid a x (by omega)]
    have h := toSS_l B hB l (a ++ [x]) m k (fun y hy => hb y (List.mem_cons_of_mem _ hy)) (by simpa using hm) (by rw [List.append_assoc, List.singleton_append]; exact hl) (by omega)
    rw [List.append_assoc a [x] l, List.singleton_append] at h
    exact h
theorem toSS (l : List (List Int)) (B k : Nat) (hn : l.length ≤ 11728124029610) (hB : B ≤ 35184372088832) (hb : ∀ x ∈ l, x.length ≤ B) (hk : l.length + B + 1 < k) : laws_toIntSS.f k l = some l := by
  unfold laws_toIntSS.f
  rw [if_pos (by omega), if_pos (by rw [Int.toNat_natCast]; exact hn)]
  have h := toSS_l B hB l [] (List.replicate ((l.length : Int)).toNat []) k hb (by simp) (by simp only [List.nil_append]; omega) hk
  exact h
theorem eqSS_l (B : Nat) (hB : B ≤ 4611686018427387904) : ∀ (l a : List (List Int)) (k : Nat), (∀ x ∈ l, x.length ≤ B) → (a ++ l).length ≤ 140737488351232 → l.length + B + 1 < k →
    laws_eqIntSS.l0 k (a ++ l) (a ++ l) a.length = some true
  | [], a, k, _, _, hk => by
    obtain ⟨k, rfl⟩ : ∃ m, k = m + 1 := ⟨k - 1, by omega⟩
    simp only [laws_eqIntSS.l0, List.append_nil]
    rw [if_neg (by omega)]
  | x :: l, a, k, hb, hl, hk => by
    obtain ⟨k, rfl⟩ : ∃ m, k = m + 1 := ⟨k - 1, by omega⟩
    have hx := hb x List.mem_cons_self
    have ha : a.length ≤ 140737488351232 := by rw [List.length_append] at hl; omega
    rw [List.length_cons] at hk
    simp only [laws_eqIntSS.l0]
    rw [if_pos (len_mid a x l), if_pos (by omega), if_pos (len_mid a x l), rdL_mid, eqI x x k (by omega) (by omega), next_mid a x (by omega)]
    simp only [Option.bind_some, decide_true, if_true]
    have h := eqSS_l B hB l (a ++ [x]) k (fun y hy => hb y (List.mem_cons_of_mem _ hy)) (by rw [List.append_assoc, List.singleton_append]; exact hl) (by omega)
    rw [List.append_assoc, List.singleton_append] at h
    exact h
theorem eqSS_refl (l : List (List Int)) (B k : Nat) (hn : l.length ≤ 140737488351232) (hB : B ≤ 4611686018427387904) (hb : ∀ x ∈ l, x.length ≤ B) (hk : l.length + B + 1 < k) : laws_eqIntSS.f k l l = some true := by
  unfold laws_eqIntSS.f
  rw [if_pos rfl]
  exact eqSS_l B hB l [] k hb hn hk
theorem szSS_le_l : ∀ (l a : List (List Int)) (m r : Int) (k : Nat), (∀ x ∈ l, x.length ≤ 140737488351232) → 0 ≤ m ∧ m ≤ 1048576 → (a ++ l).length ≤ 140737488351232 → l.length < k →
    laws_szIntSS.l0 k (a ++ l) m a.length = some r → r ≤ m
  | [], a, m, r, k, _, hm, _, hk, h => by
    obtain ⟨k, rfl⟩ : ∃ m, k = m + 1 := ⟨k - 1, by omega⟩
    rw [laws_szIntSS.l0, List.append_nil, if_neg (by omega)] at h
    have := Option.some.inj h
    omega
  | x :: l, a, m, r, k, hb, hm, hl, hk, h => by
    obtain ⟨k, rfl⟩ : ∃ m, k = m + 1 := ⟨k - 1, by omega⟩
    have hx := hb x List.mem_cons_self
    have ha : a.length ≤ 140737488351232 := by rw [List.length_append] at hl; omega
    rw [List.length_cons] at hk
    rw [laws_szIntSS.l0, if_pos (len_mid a x l), if_pos (by omega), rdL_mid, next_mid a x (by omega)] at h
    unfold laws_szIntS.f at h
    rw [w64 (by omega) (by omega)] at h
    by_cases h0 : m - (x.length : Int) < 0
    · rw [if_pos h0] at h
      simp only [Option.bind_some] at h
      rw [if_pos (by omega)] at h
      have := Option.some.inj h
      omega
    · rw [if_neg h0] at h
      simp only [Option.bind_some] at h
      rw [if_neg h0] at h
      have h2 := szSS_le_l l (a ++ [x]) (m - (x.length : Int)) r k (fun y hy => hb y (List.mem_cons_of_mem _ hy)) (by omega) (by rw [List.append_assoc, List.singleton_append]; exact hl) (by omega) (by rw [List.append_assoc a [x] l, List.singleton_append]; exact h)
      omega
theorem szSS_le (l : List (List Int)) (m r : Int) (k : Nat) (hm : 0 ≤ m ∧ m ≤ 1048576) (hn : l.length ≤ 140737488351232) (hl : ∀ x ∈ l, x.length ≤ 140737488351232) (hk : l.length < k) (h : laws_szIntSS.f k l m = some r) : r ≤ m := by
  unfold laws_szIntSS.f at h
  rw [w64 (by omega) (by omega)] at h
  by_cases h1 : m - (l.length : Int) < 0
  · rw [if_pos h1] at h
    have := Option.some.inj h
    omega
  · rw [if_neg h1] at h
    have := szSS_le_l l [] (m - (l.length : Int)) r k hl (by omega) hn hk h
    omega

-- inrange(spec_l1In)
theorem spec_l1In_eq (a lo hi : Int) : spec_l1In.f a lo hi = some (decide (lo ≤ a ∧ a ≤ hi)) := by
  unfold spec_l1In.f
  by_cases h : lo ≤ a
  · rw [if_pos (show a ≥ lo from h)]
    simp [h]
  · rw [if_neg (show ¬ a ≥ lo from h)]
    simp [h]

-- inrange(impl_in)
theorem impl_in_eq (a lo hi : Int) : impl_in.f a lo hi = some (decide (lo ≤ a ∧ a ≤ hi)) := by
  unfold impl_in.f
  by_cases h : lo ≤ a
  · rw [if_pos (show a ≥ lo from h)]
    simp [h]
  · rw [if_neg (show ¬ a ≥ lo from h)]
    simp [h]

-- flood1
-- the specification's l1Put, l6Near, l6Rows and the program's sides
theorem put_l : ∀ (l a : List Int) (n : Int) (k : Nat), (a ++ l).length ≤ 1000000000 → l.length + 1 < k →
    spec_l1Put.l0 k (a ++ l) n a.length = some (a ++ put l n)
  | [], a, n, k, hl, hk => by
    obtain ⟨k, rfl⟩ : ∃ m, k = m + 2 := ⟨k - 2, by omega⟩
    rw [List.append_nil] at hl ⊢
    rw [show k + 2 = (k + 1) + 1 from rfl]
    simp only [spec_l1Put.l0]
    rw [if_neg (by omega)]
    simp only [spec_l1Put.j1]
    rw [if_neg (by omega)]
    simp only [Option.bind_some, List.nil_append, List.length_nil]
    rw [if_pos (by omega), if_pos (by omega), Int.toNat_natCast, List.take_length, List.drop_length]
    rw [if_pos (by omega), if_pos (by omega)]
    rw [if_pos (by rw [List.length_append, List.length_singleton, List.length_nil]; omega)]
    simp [put]
  | x :: l, a, n, k, hl, hk => by
    obtain ⟨k, rfl⟩ : ∃ m, k = m + 2 := ⟨k - 2, by omega⟩
    have hl2 := hl
    rw [List.length_append, List.length_cons] at hl2
    rw [List.length_cons] at hk
    have hr : rd (a ++ x :: l) (a.length : Int) = x := by simp [rd]
    rw [show k + 2 = (k + 1) + 1 from rfl, spec_l1Put.l0]
    rw [if_pos (by rw [List.length_append, List.length_cons]; omega), if_pos (by omega), hr]
    unfold put
    by_cases h : x < n
    · rw [if_pos h, if_pos h, w64 (by omega) (by omega)]
      have h1 := put_l l (a ++ [x]) n (k + 1) (by rw [List.append_assoc, List.singleton_append]; exact hl) (by omega)
      rw [List.append_assoc, List.singleton_append, List.length_append, List.length_singleton] at h1
      rw [show (a.length : Int) + 1 = ((a.length + 1 : Nat) : Int) by omega, h1, List.append_assoc, List.singleton_append]
    · rw [if_neg h, if_neg h]
      simp only [spec_l1Put.j1]
      rw [if_pos (by rw [List.length_append, List.length_cons]; omega), if_pos (by omega), hr]
      by_cases e : x = n
      · rw [if_pos e, if_pos e]
      · rw [if_neg e, if_neg e]
        simp only [Option.bind_some, List.nil_append, List.length_nil]
        rw [if_pos (by rw [List.length_append, List.length_cons]; omega), Int.toNat_natCast, List.take_left, List.drop_left]
        rw [if_pos (by omega), if_pos (by omega), if_pos (by rw [List.length_append, List.length_singleton, List.length_cons]; omega)]
        simp
theorem put_eq (l : List Int) (n : Int) (k : Nat) (hl : l.length ≤ 1000000000) (hk : l.length + 1 < k) : spec_l1Put.f k l n = some (put l n) := put_l l [] n k hl hk
theorem put_len : ∀ (l : List Int) (n : Int), (put l n).length ≤ l.length + 1
  | [], n => by simp [put]
  | x :: l, n => by
    have := put_len l n
    unfold put
    split
    · simp only [List.length_cons]; omega
    · split <;> simp only [List.length_cons] <;> omega
theorem near_l (n : Int) : ∀ (ls b : List (List Int)) (o : List Int) (k : Nat), (∀ l ∈ ls, l.length = 2) → (b ++ ls).length ≤ 1000000 → o.length ≤ 2 * b.length → 2 * ls.length + 2 * (b ++ ls).length + 10 < k →
    spec_l6Near.l0 k n o (b ++ ls) (b ++ ls).length b.length = some (ls.foldl (nearS n) o)
  | [], b, o, k, _, _, _, hk => by
    obtain ⟨k, rfl⟩ : ∃ m, k = m + 1 := ⟨k - 1, by omega⟩
    simp only [spec_l6Near.l0, List.append_nil]
    rw [if_neg (by omega)]
    rfl
  | l :: ls, b, o, k, h2, hl, ho, hk => by
    obtain ⟨k, rfl⟩ : ∃ m, k = m + 2 := ⟨k - 2, by omega⟩
    have hx := h2 l List.mem_cons_self
    have hl2 := hl
    rw [List.length_append, List.length_cons] at hl2
    have hk2 := hk
    rw [List.length_append, List.length_cons] at hk2
    rw [List.foldl_cons]
    have go : ∀ o' : List Int, o'.length ≤ 2 * (b.length + 1) → spec_l6Near.l0 k n o' (b ++ l :: ls) (b ++ l :: ls).length (wrap64 ((b.length : Int) + 1)) = some (ls.foldl (nearS n) o') := by
      intro o' ho'
      have h := near_l n ls (b ++ [l]) o' k (fun y hy => h2 y (List.mem_cons_of_mem _ hy)) (by rw [List.append_assoc, List.singleton_append]; exact hl) (by rw [List.length_append, List.length_singleton]; omega) (by rw [List.append_assoc, List.singleton_append, List.length_append, List.length_cons]; omega)
      rw [List.append_assoc b [l] ls, List.singleton_append] at h
      rw [next_mid b l (by omega)]
      exact h
    have gj : ∀ o' : List Int, o'.length ≤ 2 * b.length + 1 → spec_l6Near.j1 (k + 1) n o' l (b ++ l :: ls) (b ++ l :: ls).length b.length = some (ls.foldl (nearS n) (if rd l 1 = n then put o' (rd l 0) else o')) := by
      intro o' ho'
      simp only [spec_l6Near.j1]
      rw [if_pos (by omega)]
      by_cases e : rd l 1 = n
      · have hp := put_len o' (rd l 0)
        rw [if_pos e, if_pos e, if_pos (by omega), put_eq o' _ k (by omega) (by omega)]
        simp only [Option.bind_some]
        exact go _ (by omega)
      · rw [if_neg e, if_neg e]
        exact go _ (by omega)
    rw [show k + 2 = (k + 1) + 1 from rfl]
    simp only [spec_l6Near.l0]
    rw [if_pos (len_mid b l ls), if_pos (by omega), if_pos (len_mid b l ls), rdL_mid, if_pos (by omega)]
    unfold nearS
    by_cases e : rd l 0 = n
    · have hp := put_len o (rd l 1)
      rw [if_pos e, if_pos (by omega), put_eq o _ (k + 1) (by omega) (by omega)]
      simp only [Option.bind_some, if_pos e]
      exact gj _ (by omega)
    · rw [if_neg e]
      simp only [if_neg e]
      exact gj _ (by omega)
theorem near_eq (ls : List (List Int)) (n : Int) (k : Nat) (h2 : ∀ l ∈ ls, l.length = 2) (hl : ls.length ≤ 1000000) (hk : 4 * ls.length + 10 < k) : spec_l6Near.f k ls n = some (nearL n ls) := near_l n ls [] [] k h2 hl (Nat.le_refl _) (by rw [List.nil_append]; omega)
/-! The rows. -/
def rowsL (n : Nat) (ls : List (List Int)) : Nat → Nat → List (List Int)
  | _, 0 => []
  | i, d + 1 => ((rowL n (i : Int) ls).map fun z => [(i : Int), z]) ++ rowsL n ls (i + 1) d
theorem rowL_len (n : Nat) (a : Int) (ls : List (List Int)) : (rowL n a ls).length ≤ n := by
  unfold rowL
  refine Nat.le_trans (List.length_filter_le _ _) ?_
  rw [List.length_map, List.length_range]
  exact Nat.le_refl _
theorem rows_in (n : Int) (ls s : List (List Int)) (a : Int) : ∀ (m b : List Int) (out : List (List Int)) (k : Nat), (b ++ m).length ≤ 1000000 → out.length + m.length ≤ 1000000 → m.length < k →
    spec_l6Rows.l1 k n ls out a (b ++ m) (b ++ m).length b.length = spec_l6Rows.l0 (k - 1 - m.length) n ls (out ++ m.map fun z => [a, z]) (wrap64 (a + 1))
  | [], b, out, k, hl, ho, hk => by
    obtain ⟨k, rfl⟩ : ∃ m, k = m + 1 := ⟨k - 1, by omega⟩
    rw [spec_l6Rows.l1, List.append_nil, if_neg (by omega)]
    simp
  | x :: m, b, out, k, hl, ho, hk => by
    obtain ⟨k, rfl⟩ : ∃ m, k = m + 1 := ⟨k - 1, by omega⟩
    rw [List.length_cons] at hk ho
    have hl2 := hl
    rw [List.length_append, List.length_cons] at hl2
    have hr : rd (b ++ x :: m) (b.length : Int) = x := by simp [rd]
    rw [spec_l6Rows.l1, if_pos (len_mid b x m), if_pos (by omega), if_pos (len_mid b x m), if_pos (by omega), hr, next_mid b x (by omega)]
    have h := rows_in n ls s a m (b ++ [x]) (out ++ [[a, x]]) k (by rw [List.append_assoc, List.singleton_append]; exact hl) (by rw [List.length_append, List.length_singleton]; omega) (by omega)
    rw [List.append_assoc b [x] m, List.singleton_append] at h
    rw [h, show k + 1 - 1 - (x :: m).length = k - 1 - m.length by rw [List.length_cons]; omega]
    simp
theorem rows_l (n : Nat) (hn : n ≤ 6) (ls : List (List Int)) (h2 : ∀ l ∈ ls, l.length = 2) (hl : ls.length ≤ 15) (hin : ∀ l ∈ ls, (0 ≤ rd l 0 ∧ rd l 0 < n) ∧ (0 ≤ rd l 1 ∧ rd l 1 < n) ∧ rd l 0 < rd l 1) :
    ∀ (d i : Nat) (out : List (List Int)) (k : Nat), i + d = n → out.length ≤ 6 * i → 10 * d + 100 < k → spec_l6Rows.l0 k n ls out i = some (out ++ rowsL n ls i d)
  | 0, i, out, k, hd, ho, hk => by
    obtain ⟨k, rfl⟩ : ∃ m, k = m + 1 := ⟨k - 1, by omega⟩
    rw [spec_l6Rows.l0, if_neg (by omega)]
    simp [rowsL]
  | d + 1, i, out, k, hd, ho, hk => by
    obtain ⟨k, rfl⟩ : ∃ m, k = m + 1 := ⟨k - 1, by omega⟩
    have hr := rowL_len n (i : Int) ls
    rw [spec_l6Rows.l0, if_pos (by omega), near_eq ls i k h2 (by omega) (by omega)]
    simp only [Option.bind_some]
    rw [near_row n i ls hin]
    have h := rows_in n ls ls i (rowL n i ls) [] out k (by rw [List.nil_append]; omega) (by omega) (by omega)
    rw [List.nil_append] at h
    refine h.trans ?_
    rw [w64 (by omega) (by omega), show (i : Int) + 1 = ((i + 1 : Nat) : Int) by omega]
    rw [rows_l n hn ls h2 hl hin d (i + 1) _ _ (by omega) (by rw [List.length_append, List.length_map]; omega) (by omega)]
    simp [rowsL]
theorem rows_eq (n : Nat) (hn : n ≤ 6) (ls : List (List Int)) (h2 : ∀ l ∈ ls, l.length = 2) (hl : ls.length ≤ 15) (hin : ∀ l ∈ ls, (0 ≤ rd l 0 ∧ rd l 0 < n) ∧ (0 ≤ rd l 1 ∧ rd l 1 < n) ∧ rd l 0 < rd l 1) (k : Nat) (hk : 200 < k) :
    spec_l6Rows.f k n ls = some (rowsL n ls 0 n) := by
  have h := rows_l n hn ls h2 hl hin n 0 [] k (by omega) (Nat.zero_le _) (by omega)
  exact h
/-! The same by the program's sides. -/
theorem lnk_row (a b : Int) (l : List Int) : lnk a b l = (decide (rd l 0 = min a b) && decide (rd l 1 = max a b)) := by
  unfold lnk mn mx
  rw [show min a b = if b < a then b else a by rw [Int.min_def]; split <;> split <;> omega, show max a b = if a < b then b else a by rw [Int.max_def]; split <;> split <;> omega]
  rfl
theorem sIn_row (ls : List (List Int)) (a : Int) : ∀ (d b : Nat), (sIn ls a b d).map (fun s => [s.f0, s.f1]) = ((((List.range' b d).map fun z : Nat => (z : Int)).filter (rowB a ls))).map fun z => [a, z]
  | 0, b => rfl
  | d + 1, b => by
    rw [List.range'_succ, List.map_cons, List.filter_cons]
    unfold sIn
    rw [List.map_append, sIn_row ls a d (b + 1)]
    have e : ls.any (lnk a (b : Int)) = rowB a ls b := by
      unfold rowB
      congr 1
      funext l
      exact lnk_row a b l
    rw [e]
    cases rowB a ls b <;> simp
theorem sOut_rows (ls : List (List Int)) (n : Nat) : ∀ (d a : Nat), (sOut ls n a d).map (fun s => [s.f0, s.f1]) = rowsL n ls a d
  | 0, a => rfl
  | d + 1, a => by
    unfold sOut rowsL
    rw [List.map_append, sOut_rows ls n d (a + 1), sIn_row]
    unfold rowL
    rw [List.range_eq_range']

-- linksok
theorem links_ok (n : Int) (ls : List (List Int)) (h : linksB n ls = true) : (1 ≤ n ∧ n ≤ 6) ∧ ls.length ≤ 15 ∧ (∀ l ∈ ls, l.length = 2) ∧ ∀ l ∈ ls, (0 ≤ rd l 0 ∧ rd l 0 < n) ∧ (0 ≤ rd l 1 ∧ rd l 1 < n) ∧ rd l 0 < rd l 1 := by
  unfold linksB at h
  rw [Bool.and_eq_true, Bool.and_eq_true, List.all_eq_true, decide_eq_true_eq, decide_eq_true_eq] at h
  obtain ⟨ha, hn, hl⟩ := h
  have hk : ∀ l ∈ ls, lkB (n - 1) l = true := by
    intro l hm
    obtain ⟨i, hi, rfl⟩ := List.mem_iff_getElem.1 hm
    have h1 := ha i (List.mem_range.2 hi)
    unfold okAt at h1
    rw [Bool.and_eq_true, w64 (by omega) (by omega)] at h1
    have e : rd_L1 ls (i : Int) = ls[i] := by simp [rd_L1, List.getD_eq_getElem?_getD, List.getElem?_eq_getElem hi]
    rw [e] at h1
    exact h1.1
  refine ⟨hn, hl, fun l hm => ?_, fun l hm => ?_⟩
  · have := hk l hm
    unfold lkB at this
    simp only [Bool.and_eq_true, decide_eq_true_eq] at this
    exact this.1
  · have := hk l hm
    unfold lkB at this
    simp only [Bool.and_eq_true, decide_eq_true_eq] at this
    omega
theorem linksC_eq (n : Int) (ls : List (List Int)) : linksC n ls = linksB n ls := rfl

-- eqs(61;laws_eqLetterS;laws_eqLetter.f laws_eqEntry)
theorem laws_eqLetterS_l (l : List S61) (hn : l.length ≤ 4611686018427387904) (d : Nat) : ∀ (k i : Nat), i + d = l.length → d < k → laws_eqLetterS.l0 k l l i = some true := by
  induction d with
  | zero =>
    intro k i h hk
    obtain ⟨k, rfl⟩ : ∃ m, k = m + 1 := ⟨k - 1, by omega⟩
    simp only [laws_eqLetterS.l0]
    rw [if_neg (by omega)]
  | succ d ih =>
    intro k i h hk
    obtain ⟨k, rfl⟩ : ∃ m, k = m + 1 := ⟨k - 1, by omega⟩
    have h1 := ih k (i + 1) (by omega) (by omega)
    simp only [laws_eqLetterS.l0]
    rw [if_pos (by omega), if_pos (by omega), if_pos (by omega), w64 (by omega) (by omega), show ((i : Int) + 1) = ((i + 1 : Nat) : Int) by omega, h1]
    unfold laws_eqLetter.f laws_eqEntry.f
    simp
theorem laws_eqLetterS_refl (l : List S61) (k : Nat) (hn : l.length ≤ 4611686018427387904) (hk : l.length < k) : laws_eqLetterS.f k l l = some true := by
  unfold laws_eqLetterS.f
  rw [if_pos rfl]
  exact laws_eqLetterS_l l hn l.length k 0 (by omega) hk

-- eqflood
theorem eqF (l0 l1 l2 : List (List Int)) (l3 : List S61) (k : Nat) (h0 : l0.length ≤ 1048576 ∧ ∀ r ∈ l0, r.length ≤ 1048576) (h1 : l1.length ≤ 1048576 ∧ ∀ r ∈ l1, r.length ≤ 1048576) (h2 : l2.length ≤ 1048576 ∧ ∀ r ∈ l2, r.length ≤ 1048576) (h3 : l3.length ≤ 1048576) (hk : 10000000 < k) :
    laws_eqFlood.f k l0 l1 l2 l3 l0 l1 l2 l3 = some true := by
  unfold laws_eqFlood.f
  rw [eqSS_refl l0 1048576 k (by omega) (by omega) h0.2 (by omega)]
  simp only [Option.bind_some, if_true]
  rw [eqSS_refl l1 1048576 k (by omega) (by omega) h1.2 (by omega)]
  simp only [Option.bind_some, if_true]
  rw [eqSS_refl l2 1048576 k (by omega) (by omega) h2.2 (by omega)]
  simp only [Option.bind_some, if_true]
  rw [laws_eqLetterS_refl l3 k (by omega) (by omega)]
  rfl

-- marki
theorem markI_l (m : Int) (hm : 0 ≤ m ∧ m ≤ 4611686018427387904) (d : Nat) : ∀ (k i : Nat) (l : List Int), i + d = l.length → l.length ≤ 2305843009213693952 → d < k → l.take i = upFrom m i →
    laws_markIntS.l0 k l (m + i) i = some (m + l.length, upFrom m l.length) := by
  induction d with
  | zero =>
    intro k i l h hn hk ht
    obtain ⟨k, rfl⟩ : ∃ m, k = m + 1 := ⟨k - 1, by omega⟩
    simp only [laws_markIntS.l0]
    rw [if_neg (by omega)]
    obtain rfl : i = l.length := by omega
    rw [List.take_length] at ht
    rw [← ht]
  | succ d ih =>
    intro k i l h hn hk ht
    obtain ⟨k, rfl⟩ : ∃ m, k = m + 1 := ⟨k - 1, by omega⟩
    simp only [laws_markIntS.l0]
    rw [if_pos (by omega), if_pos (by omega), w64 (x := m + i + 1) (by omega) (by omega), w64 (x := (i : Int) + 1) (by omega) (by omega)]
    have h1 := ih k (i + 1) (l.set (i : Int).toNat (m + i)) (by rw [List.length_set]; omega) (by rw [List.length_set]; omega) (by omega) ?_
    · rw [List.length_set] at h1
      rw [show m + (i : Int) + 1 = m + ((i + 1 : Nat) : Int) by omega, show (i : Int) + 1 = ((i + 1 : Nat) : Int) by omega]
      exact h1
    · rw [Int.toNat_natCast, List.take_set]
      rw [show List.take (i + 1) l = List.take i l ++ [l.getD i 0] by
        rw [List.take_succ_eq_append_getElem (by omega), List.getD_eq_getElem?_getD, List.getElem?_eq_getElem (by omega)]; rfl]
      rw [ht, List.set_append_right _ _ (by rw [upFrom_len]; omega), upFrom_len]
      simp [upFrom, List.range_succ]
theorem markI (l : List Int) (m : Int) (k : Nat) (hm : 0 ≤ m ∧ m ≤ 4611686018427387904) (hn : l.length ≤ 2305843009213693952) (hk : l.length < k) :
    laws_markIntS.f k l m = some (m + l.length, upFrom m l.length) := by
  have h := markI_l m hm l.length k 0 l (by omega) hn hk (by simp [upFrom])
  unfold laws_markIntS.f
  simpa using h
theorem heldI_l (m : Int) (hm : 0 ≤ m ∧ m ≤ 4611686018427387904) (n : Nat) (hn : n ≤ 2305843009213693952) (d : Nat) : ∀ (k i : Nat), i + d = n → d < k →
    laws_heldIntS.l0 k (upFrom m n) (m + i) i = some (m + n) := by
  induction d with
  | zero =>
    intro k i h hk
    obtain ⟨k, rfl⟩ : ∃ m, k = m + 1 := ⟨k - 1, by omega⟩
    simp only [laws_heldIntS.l0]
    rw [if_neg (by rw [upFrom_len]; omega)]
    obtain rfl : i = n := by omega
    rfl
  | succ d ih =>
    intro k i h hk
    obtain ⟨k, rfl⟩ : ∃ m, k = m + 1 := ⟨k - 1, by omega⟩
    have h1 := ih k (i + 1) (by omega) (by omega)
    simp only [laws_heldIntS.l0]
    rw [if_pos (by rw [upFrom_len]; omega), if_pos (by omega), rd_upFrom m n i (by omega), if_pos rfl, w64 (x := m + i + 1) (by omega) (by omega), w64 (x := (i : Int) + 1) (by omega) (by omega)]
    rw [show m + (i : Int) + 1 = m + ((i + 1 : Nat) : Int) by omega, show (i : Int) + 1 = ((i + 1 : Nat) : Int) by omega]
    exact h1
theorem heldI (m : Int) (n k : Nat) (hm : 0 ≤ m ∧ m ≤ 4611686018427387904) (hn : n ≤ 2305843009213693952) (hk : n < k) : laws_heldIntS.f k (upFrom m n) m = some (m + n) := by
  have h := heldI_l m hm n hn n k 0 (by omega) hk
  unfold laws_heldIntS.f
  simpa using h

-- intss(rd_L1)
def szSS : List (List Int) → Nat
  | [] => 0
  | x :: l => x.length + szSS l
theorem szSS_bd (B : Nat) : ∀ (l : List (List Int)), (∀ x ∈ l, x.length ≤ B) → szSS l ≤ l.length * B
  | [], _ => Nat.zero_le _
  | x :: l, h => by
    have h1 := szSS_bd B l (fun y hy => h y (List.mem_cons_of_mem _ hy))
    have h2 := h x List.mem_cons_self
    simp only [szSS, List.length_cons, Nat.add_mul, Nat.one_mul]
    omega
def mkSS (m : Int) : List (List Int) → List (List Int)
  | [] => []
  | x :: l => upFrom m x.length :: mkSS (m + (x.length : Int)) l
theorem markSS_l (B : Nat) (hB : B ≤ 10000000) : ∀ (l a : List (List Int)) (m : Int) (k : Nat), (∀ x ∈ l, x.length ≤ B) → 0 ≤ m → m + szSS l ≤ 50000000000000 → a.length + l.length ≤ 10000000 → l.length + B + 50 < k → laws_markIntSS.l0 k (a ++ l) m a.length = some (m + szSS l, a ++ mkSS m l)
  | [], a, m, k, _, _, _, _, hk => by
    obtain ⟨k, rfl⟩ : ∃ m, k = m + 1 := ⟨k - 1, by omega⟩
    simp only [laws_markIntSS.l0, List.append_nil]
    rw [if_neg (by omega)]
    simp [mkSS, szSS]
  | x :: l, a, m, k, hb, h0, hs, hl, hk => by
    obtain ⟨k, rfl⟩ : ∃ m, k = m + 1 := ⟨k - 1, by omega⟩
    have hx := hb x List.mem_cons_self
    simp only [szSS] at hs
    rw [List.length_cons] at hl hk
    simp only [laws_markIntSS.l0]
    rw [if_pos (len_mid a x l), if_pos (by omega), rdL_mid, markI x m k (by omega) (by omega) (by omega)]
    simp only [Option.bind_some]
    rw [setL_mid, next_mid a (upFrom m x.length) (by omega)]
    have h := markSS_l B hB l (a ++ [upFrom m x.length]) (m + (x.length : Int)) k (fun y hy => hb y (List.mem_cons_of_mem _ hy)) (by omega) (by omega) (by rw [List.length_append, List.length_singleton]; omega) (by omega)
    rw [h]
    simp only [mkSS, szSS, List.append_assoc, List.singleton_append]
    congr 2
    omega
theorem markSS (B : Nat) (hB : B ≤ 10000000) (l : List (List Int)) (m : Int) (k : Nat) (hb : ∀ x ∈ l, x.length ≤ B) (h0 : 0 ≤ m) (hs : m + szSS l ≤ 50000000000000) (hl : l.length ≤ 10000000) (hk : l.length + B + 50 < k) : laws_markIntSS.f k l m = some (m + szSS l, mkSS m l) := by
  have h := markSS_l B hB l [] m k hb h0 hs (by simpa using hl) hk
  unfold laws_markIntSS.f
  simpa using h

-- heldss(rd_L1)
theorem heldSS_l (B : Nat) (hB : B ≤ 10000000) : ∀ (l a : List (List Int)) (m : Int) (k : Nat), (∀ x ∈ l, x.length ≤ B) → 0 ≤ m → m + szSS l ≤ 50000000000000 → a.length + l.length ≤ 10000000 → l.length + B + 50 < k → laws_heldIntSS.l0 k (a ++ mkSS m l) m a.length = some (m + szSS l)
  | [], a, m, k, _, _, _, _, hk => by
    obtain ⟨k, rfl⟩ : ∃ m, k = m + 1 := ⟨k - 1, by omega⟩
    have e : a ++ mkSS m [] = a := List.append_nil a
    rw [e, laws_heldIntSS.l0, if_neg (by omega)]
    simp [szSS]
  | x :: l, a, m, k, hb, h0, hs, hl, hk => by
    obtain ⟨k, rfl⟩ : ∃ m, k = m + 1 := ⟨k - 1, by omega⟩
    have hx := hb x List.mem_cons_self
    simp only [szSS] at hs
    rw [List.length_cons] at hl hk
    have e : a ++ mkSS m (x :: l) = a ++ upFrom m x.length :: mkSS (m + (x.length : Int)) l := rfl
    have c : ¬ m + (x.length : Int) < 0 := by omega
    rw [e, laws_heldIntSS.l0, if_pos (len_mid a _ _), if_pos (by omega), rdL_mid, heldI m x.length k (by omega) (by omega) (by omega), Option.bind_some, if_neg c, next_mid a (upFrom m x.length) (by omega)]
    have h := heldSS_l B hB l (a ++ [upFrom m x.length]) (m + (x.length : Int)) k (fun y hy => hb y (List.mem_cons_of_mem _ hy)) (by omega) (by omega) (by rw [List.length_append, List.length_singleton]; omega) (by omega)
    rw [List.append_assoc, List.singleton_append] at h
    rw [h]
    simp only [szSS]
    congr 1
    omega
theorem heldSS (B : Nat) (hB : B ≤ 10000000) (l : List (List Int)) (m : Int) (k : Nat) (hb : ∀ x ∈ l, x.length ≤ B) (h0 : 0 ≤ m) (hs : m + szSS l ≤ 50000000000000) (hl : l.length ≤ 10000000) (hk : l.length + B + 50 < k) : laws_heldIntSS.f k (mkSS m l) m = some (m + szSS l) := by
  have h := heldSS_l B hB l [] m k hb h0 hs (by simpa using hl) hk
  exact h
theorem mkSS_len : ∀ (l : List (List Int)) (m : Int), (mkSS m l).length = l.length
  | [], _ => rfl
  | x :: l, m => by
    show (mkSS (m + (x.length : Int)) l).length + 1 = l.length + 1
    rw [mkSS_len l]

def zR (n m : Nat) : List (List Int) := List.replicate m (List.replicate n 0)
theorem zR_succ (n m : Nat) (out : List (List Int)) : out ++ zR n (m + 1) = (out ++ [List.replicate n 0]) ++ zR n m := by
  unfold zR
  rw [List.replicate_succ, List.append_assoc, List.singleton_append]
theorem zR_in (n m : Nat) : ∀ x ∈ zR n m, x.length ≤ n := by
  intro x hx
  rw [List.eq_of_mem_replicate hx, List.length_replicate]
  exact Nat.le_refl _
theorem zR_len (n m : Nat) : (zR n m).length = m := List.length_replicate
abbrev Res := List (List Int) × List (List Int) × List (List Int) × List S61 × Bool
theorem new0 (x0 : Int) (x1 : List (List Int)) (r : Res) (B : Nat) : ∀ (l b out : List (List Int)) (k : Nat), (∀ x ∈ l, x.length ≤ 1000) → (b ++ l).length ≤ 1000 → out.length = b.length → l.length + B + 1 < k →
    (∀ k', B < k' → spec_NewFlood.l1 k' x0 x1 0 (out ++ l) [] = some r) → spec_NewFlood.l0 k x0 x1 (b ++ l) (b ++ l).length b.length out = some r
  | [], b, out, k, _, _, _, hk, H => by
    obtain ⟨k, rfl⟩ : ∃ m, k = m + 1 := ⟨k - 1, by omega⟩
    rw [List.append_nil, spec_NewFlood.l0, if_neg (by omega)]
    have h := H k (by rw [List.length_nil] at hk; omega)
    rw [List.append_nil] at h
    exact h
  | x :: l, b, out, k, hx, hl, ho, hk, H => by
    obtain ⟨k, rfl⟩ : ∃ m, k = m + 1 := ⟨k - 1, by omega⟩
    have hxl := hx x List.mem_cons_self
    have hl2 : b.length + (l.length + 1) ≤ 1000 := by
      rw [List.length_append, List.length_cons] at hl
      exact hl
    rw [List.length_cons] at hk
    have c1 : (([] : List Int)).length + x.length < 17592186044416 := by rw [List.length_nil]; omega
    have c2 : out.length < 5864062014805 := by omega
    have c0 : (0 : Int) ≤ (b.length : Int) := Int.natCast_nonneg _
    rw [spec_NewFlood.l0, if_pos (len_mid b x l), if_pos c0, if_pos (len_mid b x l), rdL_mid, Option.bind_some, if_pos c1, if_pos c2, next_mid b x (by omega), List.nil_append]
    have h := new0 x0 x1 r B l (b ++ [x]) (out ++ [x]) k (fun y hy => hx y (List.mem_cons_of_mem _ hy)) (by rw [List.append_assoc]; exact hl) (by rw [List.length_append, List.length_append, ho]) (by omega) (fun k' hk' => by rw [List.append_assoc]; exact H k' hk')
    rw [List.append_assoc b [x] l] at h
    exact h
theorem new1 (n : Nat) (hn : n ≤ 6) (x1 P : List (List Int)) (r : Res) (B : Nat) : ∀ (d i : Nat) (out : List (List Int)) (k : Nat), i + d = n → out.length = i → d + B + 1 < k →
    (∀ k', B < k' → ((spec_l6Rows.f k' n x1).bind fun t => spec_NewFlood.l2 k' n (t.length : Int) 0 P (out ++ zR n d) []) = some r) → spec_NewFlood.l1 k n x1 i P out = some r
  | 0, i, out, k, h, ho, hk, H => by
    obtain ⟨k, rfl⟩ : ∃ m, k = m + 1 := ⟨k - 1, by omega⟩
    rw [spec_NewFlood.l1, if_neg (by omega)]
    have h := H k (by omega)
    have e : out ++ zR n 0 = out := List.append_nil out
    rw [e] at h
    exact h
  | d + 1, i, out, k, h, ho, hk, H => by
    obtain ⟨k, rfl⟩ : ∃ m, k = m + 1 := ⟨k - 1, by omega⟩
    have c1 : (i : Int) < (n : Int) := by omega
    have c2 : (0 : Int) ≤ (n : Int) := Int.natCast_nonneg _
    have c3 : ((n : Int)).toNat ≤ 35184372088832 := by omega
    have c4 : out.length < 5864062014805 := by omega
    have hw : wrap64 ((i : Int) + 1) = ((i + 1 : Nat) : Int) := by rw [w64 (by omega) (by omega)]; omega
    rw [spec_NewFlood.l1, if_pos c1, if_pos c2, if_pos c3, if_pos c4, hw, Int.toNat_natCast]
    clear hw
    exact new1 n hn x1 P r B d (i + 1) _ k (by omega) (by rw [List.length_append, ho]; rfl) (by omega) (fun k' hk' => by rw [← zR_succ]; exact H k' hk')
theorem new2 (n : Nat) (hn : n ≤ 6) (P Q : List (List Int)) (R : Nat) (hR : R ≤ 1000) : ∀ (d i : Nat) (out : List (List Int)) (k : Nat), i + d = R → out.length = i → d < k → spec_NewFlood.l2 k n (R : Int) i P Q out = some (P, Q, out ++ zR n d, [], true)
  | 0, i, out, k, h, ho, hk => by
    obtain ⟨k, rfl⟩ : ∃ m, k = m + 1 := ⟨k - 1, by omega⟩
    have e : out ++ zR n 0 = out := List.append_nil out
    rw [spec_NewFlood.l2, if_neg (by omega), e]
  | d + 1, i, out, k, h, ho, hk => by
    obtain ⟨k, rfl⟩ : ∃ m, k = m + 1 := ⟨k - 1, by omega⟩
    have c1 : (i : Int) < (R : Int) := by omega
    have c2 : (0 : Int) ≤ (n : Int) := Int.natCast_nonneg _
    have c3 : ((n : Int)).toNat ≤ 35184372088832 := by omega
    have c4 : out.length < 5864062014805 := by omega
    have hw : wrap64 ((i : Int) + 1) = ((i + 1 : Nat) : Int) := by rw [w64 (by omega) (by omega)]; omega
    rw [spec_NewFlood.l2, if_pos c1, if_pos c2, if_pos c3, if_pos c4, hw, Int.toNat_natCast, zR_succ]
    clear hw
    exact new2 n hn P Q R hR d (i + 1) _ k (by omega) (by rw [List.length_append, ho]; rfl) (by omega)
theorem clones_l : ∀ (l b out : List (List Int)) (k : Nat), (∀ x ∈ l, x.length ≤ 1000) → (b ++ l).length ≤ 1000 → out.length = b.length → l.length < k → impl_clones.l0 k out (b ++ l) (b ++ l).length b.length = some (out ++ l)
  | [], b, out, k, _, _, _, hk => by
    obtain ⟨k, rfl⟩ : ∃ m, k = m + 1 := ⟨k - 1, by omega⟩
    rw [List.append_nil, impl_clones.l0, if_neg (by omega), List.append_nil]
  | x :: l, b, out, k, hx, hl, ho, hk => by
    obtain ⟨k, rfl⟩ : ∃ m, k = m + 1 := ⟨k - 1, by omega⟩
    have hxl := hx x List.mem_cons_self
    have hl2 : b.length + (l.length + 1) ≤ 1000 := by
      rw [List.length_append, List.length_cons] at hl
      exact hl
    rw [List.length_cons] at hk
    have hcl : slices_Clone_int_int.f x = some x := by
      unfold slices_Clone_int_int.f
      rw [if_pos (by omega)]
    have c2 : out.length < 5864062014805 := by omega
    have c0 : (0 : Int) ≤ (b.length : Int) := Int.natCast_nonneg _
    rw [impl_clones.l0, if_pos (len_mid b x l), if_pos c0, if_pos (len_mid b x l), rdL_mid, hcl, Option.bind_some, if_pos c2, next_mid b x (by omega)]
    have h := clones_l l (b ++ [x]) (out ++ [x]) k (fun y hy => hx y (List.mem_cons_of_mem _ hy)) (by rw [List.append_assoc]; exact hl) (by rw [List.length_append, List.length_append, ho]) (by omega)
    rw [List.append_assoc b [x] l, List.append_assoc out [x] l] at h
    exact h
theorem zeros_l (n : Nat) (hn : n ≤ 6) (R : Nat) (hR : R ≤ 1000) : ∀ (d i : Nat) (out : List (List Int)) (k : Nat), i + d = R → out.length = i → d < k → impl_zeros.l0 k n out (R : Int) i = some (out ++ zR n d)
  | 0, i, out, k, h, ho, hk => by
    obtain ⟨k, rfl⟩ : ∃ m, k = m + 1 := ⟨k - 1, by omega⟩
    have e : out ++ zR n 0 = out := List.append_nil out
    rw [impl_zeros.l0, if_neg (by omega), e]
  | d + 1, i, out, k, h, ho, hk => by
    obtain ⟨k, rfl⟩ : ∃ m, k = m + 1 := ⟨k - 1, by omega⟩
    have c1 : (i : Int) < (R : Int) := by omega
    have c2 : (0 : Int) ≤ (n : Int) := Int.natCast_nonneg _
    have c3 : ((n : Int)).toNat ≤ 35184372088832 := by omega
    have c4 : out.length < 5864062014805 := by omega
    have hw : wrap64 ((i : Int) + 1) = ((i + 1 : Nat) : Int) := by rw [w64 (by omega) (by omega)]; omega
    rw [impl_zeros.l0, if_pos c1, if_pos c2, if_pos c3, if_pos c4, hw, Int.toNat_natCast, zR_succ]
    clear hw
    exact zeros_l n hn R hR d (i + 1) _ k (by omega) (by rw [List.length_append, ho]; rfl) (by omega)
theorem rowsL_le (n : Nat) (ls : List (List Int)) : ∀ (d i : Nat), (rowsL n ls i d).length ≤ d * n
  | 0, _ => Nat.zero_le _
  | d + 1, i => by
    unfold rowsL
    have h1 := rowsL_le n ls d (i + 1)
    have h2 := rowL_len n (i : Int) ls
    rw [List.length_append, List.length_map, Nat.succ_mul]
    omega
/-- What both answer. -/
theorem both_new (a : Int) (l : List (List Int)) (hl : l.length ≤ 1048576) (k : Nat) (hk : 10000 < k) : ∃ (s0 s1 s2 : List (List Int)) (b : Bool), spec_NewFlood.f k a l = some (s0, s1, s2, [], b) ∧ impl_NewFlood.f k a l = some (s0, s1, s2, [], b) ∧
    (s0.length ≤ 40 ∧ ∀ x ∈ s0, x.length ≤ 40) ∧ (s1.length ≤ 40 ∧ ∀ x ∈ s1, x.length ≤ 40) ∧ (s2.length ≤ 40 ∧ ∀ x ∈ s2, x.length ≤ 40) := by
  have eC : linksC a l = linksB a l := linksC_eq a l
  have eS : spec_l6Links.f a l = some (linksB a l) := by
    unfold spec_l6Links.f
    first | rfl | rw [if_pos (by omega)]
  have eI : impl_goodLinks.f a l = some (linksB a l) := by
    unfold impl_goodLinks.f
    rw [← eC]
    first | rfl | rw [if_pos (by omega)]
  unfold spec_NewFlood.f impl_NewFlood.f
  rw [eS, eI, Option.bind_some, Option.bind_some]
  cases h : linksB a l
  · exact ⟨[], [], [], false, rfl, rfl, ⟨by simp, fun x hx => absurd hx List.not_mem_nil⟩, ⟨by simp, fun x hx => absurd hx List.not_mem_nil⟩, ⟨by simp, fun x hx => absurd hx List.not_mem_nil⟩⟩
  · obtain ⟨hn, h15, h2, hin⟩ := links_ok a l h
    obtain ⟨n, rfl⟩ : ∃ n : Nat, a = (n : Int) := ⟨a.toNat, by omega⟩
    have hn6 : n ≤ 6 := by omega
    have h1000 : ∀ x ∈ l, x.length ≤ 1000 := fun x hx => by have := h2 x hx; omega
    have hrow := rows_eq n hn6 l h2 h15 hin
    obtain ⟨R, hR⟩ : ∃ R, R = (rowsL n l 0 n).length := ⟨_, rfl⟩
    have hRl : R ≤ 36 := by
      have := rowsL_le n l n 0
      have h6 : n * n ≤ 6 * 6 := Nat.mul_le_mul hn6 hn6
      omega
    have hs : (sOut l n 0 n).length = R := by
      have := congrArg List.length (sOut_rows l n n 0)
      rw [List.length_map] at this
      omega
    have eSides : impl_sides.f (n : Int) l = some (sOut l n 0 n) := by
      have c1 : (0 : Int) ≤ (n : Int) ∧ (n : Int) ≤ 64 := by omega
      have c2 : l.length ≤ 4611686018427387904 := by omega
      have c3 : (l.all fun x => x.length == 2) = true := List.all_eq_true.2 fun x hx => by rw [beq_iff_eq]; exact h2 x hx
      unfold impl_sides.f
      rw [if_pos c1, if_pos c2, if_pos c3, Int.toNat_natCast]
    refine ⟨l, zR n n, zR n R, true, ?_, ?_, ⟨by omega, fun x hx => by have := h2 x hx; omega⟩, ⟨by rw [zR_len]; omega, fun x hx => by have := zR_in n n x hx; omega⟩, ⟨by rw [zR_len]; omega, fun x hx => by have := zR_in n R x hx; omega⟩⟩
    · rw [if_pos rfl]
      have h0 := new0 (n : Int) l (l, zR n n, zR n R, [], true) 500 l [] [] k h1000 (by rw [List.nil_append]; omega) rfl (by omega) (fun k' hk' => by
        rw [List.nil_append]
        have h1 := new1 n hn6 l l (l, zR n n, zR n R, [], true) 300 n 0 [] k' (by omega) rfl (by omega) (fun k2 hk2 => by
          rw [hrow k2 (by omega), Option.bind_some, ← hR, List.nil_append]
          have h3 := new2 n hn6 l (zR n n) R (by omega) R 0 [] k2 (by omega) rfl (by omega)
          rw [List.nil_append] at h3
          exact h3)
        exact h1)
      rw [List.nil_append] at h0
      exact h0
    · rw [if_pos rfl]
      have e1 : impl_clones.f k l = some l := by
        have h1 := clones_l l [] [] k h1000 (by rw [List.nil_append]; omega) rfl (by omega)
        rw [List.nil_append] at h1
        exact h1
      have e2 : ∀ m : Nat, m ≤ 36 → impl_zeros.f k (m : Int) (n : Int) = some (zR n m) := fun m hm => by
        have h1 := zeros_l n hn6 m (by omega) m 0 [] k (by omega) rfl (by omega)
        rw [List.nil_append] at h1
        exact h1
      have e3 : impl_newFlood.f k (n : Int) l = some (l, zR n n, zR n R, []) := by
        unfold impl_newFlood.f
        rw [e1, Option.bind_some, e2 n (by omega), Option.bind_some, eSides, Option.bind_some, hs, e2 R hRl, Option.bind_some]
      rw [e3, Option.bind_some]
theorem sz40 (l : List (List Int)) (h : l.length ≤ 40 ∧ ∀ x ∈ l, x.length ≤ 40) : szSS l ≤ 1600 := by
  have h1 := szSS_bd 40 l h.2
  have h2 : l.length * 40 ≤ 40 * 40 := Nat.mul_le_mul_right 40 h.1
  omega
theorem mark_flood (s0 s1 s2 : List (List Int)) (k : Nat) (h0 : s0.length ≤ 40 ∧ ∀ x ∈ s0, x.length ≤ 40) (h1 : s1.length ≤ 40 ∧ ∀ x ∈ s1, x.length ≤ 40) (h2 : s2.length ≤ 40 ∧ ∀ x ∈ s2, x.length ≤ 40) (hk : 1000 < k) :
    ∃ n, laws_markFlood.f k s0 s1 s2 1 = some n ∧ laws_heldFlood.f k n.2.1 n.2.2.1 n.2.2.2 [] 1 = some n.1 ∧ 0 ≤ n.1 := by
  have a0 := sz40 s0 h0
  have a1 := sz40 s1 h1
  have a2 := sz40 s2 h2
  have m0 := markSS 40 (by omega) s0 1 k h0.2 (by omega) (by omega) (by omega) (by omega)
  have m1 := markSS 40 (by omega) s1 (1 + szSS s0) k h1.2 (by omega) (by omega) (by omega) (by omega)
  have m2 := markSS 40 (by omega) s2 (1 + szSS s0 + szSS s1) k h2.2 (by omega) (by omega) (by omega) (by omega)
  have b0 := heldSS 40 (by omega) s0 1 k h0.2 (by omega) (by omega) (by omega) (by omega)
  have b1 := heldSS 40 (by omega) s1 (1 + szSS s0) k h1.2 (by omega) (by omega) (by omega) (by omega)
  have b2 := heldSS 40 (by omega) s2 (1 + szSS s0 + szSS s1) k h2.2 (by omega) (by omega) (by omega) (by omega)
  refine ⟨(1 + szSS s0 + szSS s1 + szSS s2, mkSS 1 s0, mkSS (1 + szSS s0) s1, mkSS (1 + szSS s0 + szSS s1) s2), ?_, ?_, by dsimp only; omega⟩
  · unfold laws_markFlood.f
    rw [m0, Option.bind_some]
    dsimp only
    rw [m1, Option.bind_some]
    dsimp only
    rw [m2, Option.bind_some]
  · dsimp only
    have c0 : ¬ (1 + (szSS s0 : Int)) < 0 := by omega
    have c1 : ¬ (1 + (szSS s0 : Int) + (szSS s1 : Int)) < 0 := by omega
    have c2 : ¬ (1 + (szSS s0 : Int) + (szSS s1 : Int) + (szSS s2 : Int)) < 0 := by omega
    have e : ∀ x : Int, laws_heldLetterS.f k [] x = some x := fun x => by
      obtain ⟨k, rfl⟩ : ∃ m, k = m + 1 := ⟨k - 1, by omega⟩
      unfold laws_heldLetterS.f
      rw [laws_heldLetterS.l0, if_neg (by decide)]
    unfold laws_heldFlood.f
    rw [b0, Option.bind_some, if_neg c0, b1, Option.bind_some, if_neg c1, b2, Option.bind_some, if_neg c2, e, Option.bind_some, if_neg c2]
theorem FnExactNewFlood : laws_FnExactNewFlood.PureS := by
  intro a l _ ⟨n0, b0⟩
  obtain ⟨K, hK⟩ : ∃ K, K = l.length + 20000000 := ⟨_, rfl⟩
  refine ⟨K, ?_⟩
  unfold laws_FnExactNewFlood.f
  have hb : ∀ x ∈ l, x.length ≤ 140737488351232 := fun x hx => by have := (b0 x hx).1; omega
  obtain ⟨s, hs, hd⟩ := szSS_any l 1048576 K (by omega) (by omega) hb (by omega)
  refine Option.bind_eq_some_iff.2 ⟨s, hs, ?_⟩
  by_cases c : s < 0
  · rw [if_pos c]
  rw [if_neg c]
  rcases hd with hd | ⟨_, hl, hr⟩
  · exact absurd hd c
  clear hs c b0 n0 hb
  have eT := toSS l 1048576 K (by omega) (by omega) hr (by omega)
  obtain ⟨s0, s1, s2, b, e1, e2, h0, h1, h2⟩ := both_new a l hl K (by omega)
  have up : ∀ x : List (List Int), (x.length ≤ 40 ∧ ∀ y ∈ x, y.length ≤ 40) → x.length ≤ 1048576 ∧ ∀ y ∈ x, y.length ≤ 1048576 := fun x h => ⟨by omega, fun y hy => by have := h.2 y hy; omega⟩
  have eF := eqF s0 s1 s2 [] K (up _ h0) (up _ h1) (up _ h2) (by simp) (by omega)
  have eR := eqSS_refl l 1048576 K (by omega) (by omega) hr (by omega)
  have hsz := szSS_bd 1048576 l hr
  have hsz2 : l.length * 1048576 ≤ 1048576 * 1048576 := Nat.mul_le_mul_right 1048576 hl
  have eM := markSS 1048576 (by omega) l 1 K hr (by omega) (by omega) (by omega) (by omega)
  obtain ⟨n, n1, n2, n3⟩ := mark_flood s0 s1 s2 K h0 h1 h2 (by omega)
  have hm : (0 : Int) ≤ 1 + szSS l := by omega
  refine Option.bind_eq_some_iff.2 ⟨l, eT, Option.bind_eq_some_iff.2 ⟨_, e1, Option.bind_eq_some_iff.2 ⟨_, e2, Option.bind_eq_some_iff.2 ⟨true, eF, ?_⟩⟩⟩⟩
  rw [if_pos rfl, if_pos rfl]
  refine Option.bind_eq_some_iff.2 ⟨true, eR, ?_⟩
  rw [if_pos rfl]
  refine Option.bind_eq_some_iff.2 ⟨_, eM, ?_⟩
  dsimp only
  rw [if_pos hm]
  refine Option.bind_eq_some_iff.2 ⟨n, n1, Option.bind_eq_some_iff.2 ⟨n.1, n2, ?_⟩⟩
  rw [if_pos rfl, if_pos n3]

end Go.Proofs.Ytdbnjjpkpaifcaa.Pure
