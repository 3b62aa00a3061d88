/- FnExactMergeHaves answers true for each two lists of entries. No condition beyond the row's own bounds. -/
import Derived.Test.YtpcimkpklmemnaaSFnExactMergeHaves
namespace Go.Proofs.Ytpcimkpklmemnaa.Pure
open Go.RowKit Go.Proofs.Ytpcimkpklmemnaa.PFnExactMergeHaves Go.Proofs.YtpcimkpklmemnaaW.PrintWords Go.Proofs.YtpcimkpklmemnaaW.PrintLast
set_option linter.unusedVariables false
set_option linter.unusedSimpArgs false

-- w64
theorem w64 {x : Int} (h0 : -9223372036854775808 ≤ x) (h1 : x ≤ 9223372036854775807) : wrap64 x = x := by
  unfold wrap64
  omega
theorem tm {x y : Int} (h0 : 0 ≤ x) : Int.tmod x y = x % y := Int.tmod_eq_emod_of_nonneg h0
theorem wf64 {x : Int} (h : (Lit.int .i64 x).wf = true) : -9223372036854775808 ≤ x ∧ x ≤ 9223372036854775807 := by
  simp [Lit.wf, IntKind.min, IntKind.max, IntKind.signed, IntKind.bits] at h
  omega

-- helps
theorem set_take {α : Type} (m L : List α) (i : Nat) (hi : i < L.length) (hm : m.length = L.length) (ht : m.take i = L.take i) (v : α) (hv : L[i]? = some v) : (m.set i v).take (i + 1) = L.take (i + 1) := by
  rw [List.take_set, List.take_succ_eq_append_getElem (by omega), List.take_succ_eq_append_getElem hi, ht, List.set_append_right _ _ (by rw [List.length_take]; omega)]
  rw [List.length_take, show i - min i L.length = 0 by omega]
  rw [List.getElem?_eq_getElem hi] at hv
  rw [Option.some.inj hv]
  rfl
/-- From some number of rounds on: one number for a pair. -/
theorem ev_at {α : Type} {g : Nat → Option α} {r : α} (h : Ev g r) : ∃ K, ∀ k, K ≤ k → g k = some r := h
theorem ev_some {α : Type} {g : Nat → Option α} {r : α} (h : ∀ k, g k = some r) : Ev g r := ⟨0, fun k _ => h k⟩
theorem ev_ge {α : Type} {g : Nat → Option α} {r : α} (K : Nat) (h : ∀ k, K ≤ k → g k = some r) : Ev g r := ⟨K, h⟩

-- rdt(56)
theorem rd_T56_at (l : List S56) (i : Nat) (h : i < l.length) : rd_T56 l i = l[i] := by
  simp [rd_T56, List.getD_eq_getElem?_getD, List.getElem?_eq_getElem h]

-- inrange(spec_l1In)
theorem spec_l1In_eq (a lo hi : Int) : spec_l1In.f a lo hi = some (decide (lo ≤ a ∧ a ≤ hi)) := by
  unfold spec_l1In.f
  by_cases h : lo ≤ a
  · rw [if_pos (show a ≥ lo from h)]
    simp [h]
  · rw [if_neg (show ¬ a ≥ lo from h)]
    simp [h]

-- goodh(56)
theorem in_same (a b c : Int) : impl_in.f a b c = spec_l1In.f a b c := rfl
theorem goodh_l : ∀ (k : Nat) (x0 x5 : List S56) (x6 x7 : Int), impl_GoodHaves.l0 k x0 x5 x6 x7 = spec_GoodHaves.l0 k x0 x5 x6 x7
  | 0, _, _, _, _ => rfl
  | k + 1, x0, x5, x6, x7 => by simp only [impl_GoodHaves.l0, spec_GoodHaves.l0, in_same, goodh_l k]
theorem goodh_same (k : Nat) (l : List S56) : impl_GoodHaves.f k l = spec_GoodHaves.f k l := goodh_l k l l _ _
def okH (x : S56) : Bool := decide (1 ≤ x.f0 ∧ x.f0 ≤ 1000) && decide (1 ≤ x.f1 ∧ x.f1 ≤ 1000)
/-- Entries with rising Froms behind one. -/
def upH (p : Int) : List S56 → Bool
  | [] => true
  | x :: r => okH x && (decide (p < x.f0) && upH x.f0 r)
def goodH (l : List S56) : Bool := upH 0 l && decide (l.length ≤ 30)
def before (l : List S56) : Nat → Int
  | 0 => 0
  | i + 1 => (rd_T56 l i).f0
theorem drop_H (l : List S56) (i : Nat) (h : i < l.length) : l.drop i = rd_T56 l i :: l.drop (i + 1) := by
  rw [rd_T56_at l i h]
  exact List.drop_eq_getElem_cons h
theorem wi (i : Nat) (h : i ≤ 4611686018427387904) : wrap64 ((i : Int) + 1) = ((i + 1 : Nat) : Int) := by
  rw [w64 (by omega) (by omega)]
  omega
theorem spec_goodH_l (l : List S56) (hn : l.length ≤ 4611686018427387904) (d : Nat) : ∀ (k i : Nat), i + d = l.length → d < k →
    spec_GoodHaves.l0 k l l l.length i = some (upH (before l i) (l.drop i) && decide (l.length ≤ 30)) := by
  induction d with
  | zero =>
    intro k i h hk
    obtain ⟨k, rfl⟩ : ∃ m, k = m + 1 := ⟨k - 1, by omega⟩
    simp only [spec_GoodHaves.l0]
    rw [if_neg (by omega), List.drop_of_length_le (by omega)]
    simp only [upH, Bool.true_and]
    by_cases h1 : l.length ≤ 30
    · rw [decide_eq_true h1, decide_eq_true (show (l.length : Int) ≤ 30 by omega)]
    · rw [decide_eq_false h1, decide_eq_false (show ¬ (l.length : Int) ≤ 30 by omega)]
  | succ d ih =>
    intro k i h hk
    obtain ⟨k, rfl⟩ : ∃ m, k = m + 1 := ⟨k - 1, by omega⟩
    have ih := ih k (i + 1) (by omega) (by omega)
    rw [drop_H l i (by omega)]
    simp only [spec_GoodHaves.l0]
    rw [if_pos (by omega), if_pos (by omega), if_pos (by omega), spec_l1In_eq, spec_l1In_eq, wi _ (by omega)]
    simp only [Option.bind_some, upH, okH]
    by_cases ho : 1 ≤ (rd_T56 l i).f0 ∧ (rd_T56 l i).f0 ≤ 1000
    · rw [decide_eq_true ho]
      cases ho2 : decide (1 ≤ (rd_T56 l i).f1 ∧ (rd_T56 l i).f1 ≤ 1000)
      · simp
      · simp only [if_true, Bool.true_and]
        cases i with
        | zero =>
          rw [if_neg (by omega)]
          have hp : (0 : Int) < (rd_T56 l ((0 : Nat) : Int)).f0 := by omega
          rw [ih, show before l 0 = 0 from rfl, decide_eq_true hp]
          simp only [Bool.true_and]
          rfl
        | succ i =>
          rw [if_pos (by omega), w64 (x := ((i + 1 : Nat) : Int) - 1) (by omega) (by omega), show ((i + 1 : Nat) : Int) - 1 = (i : Int) by omega, if_pos (by omega), if_pos (by omega)]
          have hb : before l (i + 1) = (rd_T56 l i).f0 := rfl
          by_cases hlt : before l (i + 1) < (rd_T56 l ((i + 1 : Nat) : Int)).f0
          · rw [if_neg (by omega), ih, decide_eq_true hlt]
            simp only [Bool.true_and]
            rfl
          · rw [if_pos (by omega), decide_eq_false hlt]
            simp
    · rw [decide_eq_false ho]
      simp
theorem spec_goodH (l : List S56) (k : Nat) (hn : l.length ≤ 4611686018427387904) (hk : l.length < k) : spec_GoodHaves.f k l = some (goodH l) := by
  have h := spec_goodH_l l hn l.length k 0 (by omega) hk
  rw [List.drop_zero] at h
  exact h
theorem impl_goodH (l : List S56) (k : Nat) (hn : l.length ≤ 4611686018427387904) (hk : l.length < k) : impl_GoodHaves.f k l = some (goodH l) := by
  rw [goodh_same]
  exact spec_goodH l k hn hk

-- l7merge
theorem lowN_at (t : Int) : ∀ (l : List S56) (hl : lowN t l < l.length), ¬ (l[lowN t l]).f0 < t
  | [], hl => absurd hl (Nat.not_lt_zero _)
  | y :: r, hl => by
    by_cases h : y.f0 < t
    · have e : lowN t (y :: r) = lowN t r + 1 := by rw [lowN, if_pos h]
      simp only [e, List.getElem_cons_succ] at hl ⊢
      exact lowN_at t r (by simpa using hl)
    · have e : lowN t (y :: r) = 0 := by rw [lowN, if_neg h]
      simp only [e, List.getElem_cons_zero]
      exact h
theorem l7Put_j2f (l : List S56) (hn : l.length ≤ 1000000) (n : Nat) (a b : Int) (k : Nat) (h : n ≤ l.length) :
    spec_l7Put.j2 (k + 1) l (n : Int) (l.take n) false a b = some (l.take n ++ [⟨a, b⟩] ++ l.drop n) := by
  have h1 : (l.take n).length = n := by rw [List.length_take]; omega
  have h2 : (l.drop n).length = l.length - n := List.length_drop
  simp only [spec_l7Put.j2]
  rw [if_neg (by simp), if_pos (by omega)]
  simp only [Option.bind_some]
  rw [if_pos (by omega), if_pos (by omega), Int.toNat_natCast, if_pos (by rw [List.length_append, List.length_singleton]; omega)]
theorem l7Put_j2t (l : List S56) (hn : l.length ≤ 1000000) (n : Nat) (a b : Int) (k : Nat) (h : n < l.length) (he : (l[n]).f0 = a) :
    spec_l7Put.j2 (k + 1) l (n : Int) (l.take n) true a b = some (l.take n ++ [⟨a, mx (l[n]).f1 b⟩] ++ l.drop (n + 1)) := by
  have h1 : (l.take n).length = n := by rw [List.length_take]; omega
  have h2 : (l.drop (n + 1)).length = l.length - (n + 1) := List.length_drop
  simp only [spec_l7Put.j2]
  rw [if_pos trivial, if_pos (by omega), if_pos (by omega), rd_T56_at l n h, w64 (x := (n : Int) + 1) (by omega) (by omega), show (n : Int) + 1 = ((n + 1 : Nat) : Int) by omega, Int.toNat_natCast]
  have hm : mx (l[n]).f1 b = if (l[n]).f1 > b then (l[n]).f1 else b := by
    unfold mx
    split <;> split <;> omega
  rw [hm]
  by_cases hb : (l[n]).f1 > b
  · rw [if_pos hb, if_pos hb, if_pos (by omega)]
    simp only [Option.bind_some]
    rw [if_pos (by omega), if_pos (by omega), if_pos (by rw [List.length_append, List.length_singleton]; omega), he]
  · rw [if_neg hb, if_neg hb, if_pos (by omega)]
    simp only [Option.bind_some]
    rw [if_pos (by omega), if_pos (by omega), if_pos (by rw [List.length_append, List.length_singleton]; omega)]
theorem l7Put_j1 (l : List S56) (hn : l.length ≤ 1000000) (h : S56) (k : Nat) : spec_l7Put.j1 (k + 2) l (lowN h.f0 l : Int) h.f0 h.f1 = some (insH l h) := by
  have hle := lowN_le h.f0 l
  have ht : (l.take (lowN h.f0 l)).length = lowN h.f0 l := by rw [List.length_take]; omega
  simp only [spec_l7Put.j1]
  rw [Option.bind_some, if_pos (by omega), if_pos (by omega), Option.bind_some, Int.toNat_natCast, if_pos (by simp only [List.length_nil, ht]; omega), Option.bind_some, List.nil_append]
  by_cases hl : lowN h.f0 l < l.length
  · rw [if_pos (by omega), rd_T56_at l _ hl]
    by_cases he : (l[lowN h.f0 l]).f0 = h.f0
    · rw [beq_iff_eq.mpr he, l7Put_j2t l hn _ _ _ k hl he, ← insH_found h l hl he, List.set_eq_take_append_cons_drop, if_pos hl, List.append_assoc]
      rfl
    · rw [beq_eq_false_iff_ne.mpr he, l7Put_j2f l hn _ _ _ k hle, ← insH_new h l (fun _ => he)]
  · rw [if_neg (by omega), l7Put_j2f l hn _ _ _ k hle, ← insH_new h l (fun h2 => absurd h2 hl)]
theorem l7Put_l (l : List S56) (hn : l.length ≤ 1000000) (h : S56) (d : Nat) : ∀ (k i : Nat), i + d = lowN h.f0 l → d + 2 < k → spec_l7Put.l0 k l (i : Int) h.f0 h.f1 = some (insH l h) := by
  have hle := lowN_le h.f0 l
  induction d with
  | zero =>
    intro k i hi hk
    obtain ⟨k, rfl⟩ : ∃ m, k = m + 3 := ⟨k - 3, by omega⟩
    obtain rfl : i = lowN h.f0 l := by omega
    have hj := l7Put_j1 l hn h k
    simp only [spec_l7Put.l0]
    by_cases hl : lowN h.f0 l < l.length
    · rw [if_pos (by omega), if_pos (by omega), rd_T56_at l _ hl, if_neg (lowN_at _ l hl)]
      exact hj
    · rw [if_neg (by omega)]
      exact hj
  | succ d ih =>
    intro k i hi hk
    obtain ⟨k, rfl⟩ : ∃ m, k = m + 1 := ⟨k - 1, by omega⟩
    simp only [spec_l7Put.l0]
    rw [if_pos (by omega), if_pos (by omega), rd_T56_at l i (by omega), if_pos (lowN_lt _ l i (by omega) (by omega)), wi _ (by omega)]
    exact ih k (i + 1) (by omega) (by omega)
theorem spec_l7Put_f (l : List S56) (hn : l.length ≤ 1000000) (h : S56) (k : Nat) (hk : l.length + 2 < k) : spec_l7Put.f k l h.f0 h.f1 = some (insH l h) := by
  have hle := lowN_le h.f0 l
  exact l7Put_l l hn h (lowN h.f0 l) k 0 (by omega) (by omega)
theorem spec_l7Merge_l (b : List S56) (hbl : b.length ≤ 1000) (d : Nat) : ∀ (k i : Nat) (out : List S56), i + d = b.length → out.length + d ≤ 1000 → 1010 + d < k → spec_l7Merge.l0 k out b (b.length : Int) i = some ((b.drop i).foldl insH out) := by
  induction d with
  | zero =>
    intro k i out hi ho hk
    obtain ⟨k, rfl⟩ : ∃ m, k = m + 1 := ⟨k - 1, by omega⟩
    simp only [spec_l7Merge.l0]
    rw [if_neg (by omega), List.drop_of_length_le (by omega)]
    rfl
  | succ d ih =>
    intro k i out hi ho hk
    obtain ⟨k, rfl⟩ : ∃ m, k = m + 1 := ⟨k - 1, by omega⟩
    have hl := insH_len (rd_T56 b (i : Int)) out
    simp only [spec_l7Merge.l0]
    rw [if_pos (by omega), if_pos (by omega), if_pos (by omega), spec_l7Put_f out (by omega) _ k (by omega), Option.bind_some, drop_H b i (by omega), List.foldl_cons, wi _ (by omega)]
    exact ih k (i + 1) _ (by omega) (by omega) (by omega)
theorem spec_l7Merge_f (a b : List S56) (k : Nat) (h : a.length + b.length ≤ 1000) (hk : 2020 < k) : spec_l7Merge.f k a b = some (b.foldl insH a) := by
  unfold spec_l7Merge.f
  rw [Option.bind_some, if_pos (by simp only [List.length_nil]; omega), List.nil_append]
  have h2 := spec_l7Merge_l b (by omega) b.length k 0 a (by omega) (by omega) (by omega)
  rw [List.drop_zero] at h2
  exact h2
/-- Good entries and their merge. -/
theorem upH_upF : ∀ (l : List S56) (p : Int), upH p l = true → upF p l = true
  | [], _, _ => rfl
  | x :: r, p, h => by
    simp only [upH, okH, Bool.and_eq_true, decide_eq_true_eq] at h
    rw [upF_cons]
    exact ⟨⟨h.2.1, h.1.1.2⟩, upH_upF r _ h.2.2⟩
theorem upH_ok : ∀ (l : List S56) (p : Int), upH p l = true → ∀ x ∈ l, okH x = true
  | [], _, _, x, hx => by cases hx
  | y :: r, p, h, x, hx => by
    simp only [upH, Bool.and_eq_true, decide_eq_true_eq] at h
    rcases List.mem_cons.1 hx with rfl | hx
    · exact h.1
    · exact upH_ok r _ h.2.2 x hx
theorem okH_iff (x : S56) : okH x = true ↔ (1 ≤ x.f0 ∧ x.f0 ≤ 1000) ∧ (1 ≤ x.f1 ∧ x.f1 ≤ 1000) := by
  simp only [okH, Bool.and_eq_true, decide_eq_true_eq]
theorem upH_cons {p : Int} {x : S56} {r : List S56} : upH p (x :: r) = true ↔ okH x = true ∧ p < x.f0 ∧ upH x.f0 r = true := by
  simp only [upH, Bool.and_eq_true, decide_eq_true_eq]
theorem insH_upH (h : S56) (hh : okH h = true) : ∀ {l : List S56} {p : Int}, upH p l = true → p < h.f0 → upH p (insH l h) = true
  | [], p, _, h1 => by rw [insH, upH_cons]; exact ⟨hh, h1, rfl⟩
  | y :: r, p, hu, h1 => by
    have h3 := upH_cons.1 hu
    unfold insH
    split
    · next hlt => rw [upH_cons]; exact ⟨h3.1, h3.2.1, insH_upH h hh h3.2.2 hlt⟩
    · split
      · next he =>
        rw [upH_cons]
        refine ⟨?_, h3.2.1, h3.2.2⟩
        have hy := (okH_iff _).1 h3.1
        have hx := (okH_iff _).1 hh
        rw [okH_iff]
        refine ⟨hy.1, ?_⟩
        simp only [mx]
        split
        · exact hx.2
        · exact hy.2
      · rw [upH_cons, upH_cons]; exact ⟨hh, h1, h3.1, by omega, h3.2.2⟩
theorem merge_upH : ∀ (b a : List S56), upH 0 a = true → (∀ x ∈ b, okH x = true) → upH 0 (b.foldl insH a) = true
  | [], _, h, _ => h
  | x :: b, a, h, hb => by
    have hx := hb x List.mem_cons_self
    rw [List.foldl_cons]
    exact merge_upH b _ (insH_upH x hx h (by have := (okH_iff _).1 hx; omega)) (fun y hy => hb y (List.mem_cons_of_mem _ hy))
theorem merge_len : ∀ (b a : List S56), (b.foldl insH a).length ≤ a.length + b.length
  | [], _ => Nat.le_refl _
  | x :: b, a => by
    have h1 := insH_len x a
    have h2 := merge_len b (insH a x)
    rw [List.foldl_cons, List.length_cons]
    omega
/-- What merging hands back. -/
def mergeR (a b : List S56) : List S56 × Bool := if goodH a = true ∧ goodH b = true ∧ (b.foldl insH a).length ≤ 30 then (b.foldl insH a, true) else ([], false)
theorem goodH_iff (l : List S56) : goodH l = true ↔ upH 0 l = true ∧ l.length ≤ 30 := by
  simp only [goodH, Bool.and_eq_true, decide_eq_true_eq]
theorem mergeR_len (a b : List S56) : (mergeR a b).1.length ≤ 30 := by
  unfold mergeR
  split
  · next h => exact h.2.2
  · exact Nat.zero_le _
theorem impl_MergeHaves_f (a b : List S56) (k : Nat) (ha : a.length ≤ 4611686018427387904) (hb : b.length ≤ 4611686018427387904) (hk : a.length < k ∧ b.length < k) : impl_MergeHaves.f k a b = some (mergeR a b) := by
  obtain ⟨k, rfl⟩ : ∃ m, k = m + 1 := ⟨k - 1, by omega⟩
  unfold impl_MergeHaves.f mergeR
  rw [impl_goodH a _ ha hk.1, Option.bind_some]
  by_cases h1 : goodH a = true
  · rw [if_pos h1, impl_goodH b _ hb hk.2, Option.bind_some]
    by_cases h2 : goodH b = true
    · have g1 := (goodH_iff a).1 h1
      have g2 := (goodH_iff b).1 h2
      have hbo : ∀ x ∈ b, 0 < x.f0 ∧ x.f0 ≤ 1000 := fun x hx => by have := (okH_iff _).1 (upH_ok b 0 g2.1 x hx); omega
      rw [h2]
      simp only [impl_MergeHaves.j0, Bool.not_true, Bool.false_eq_true, if_false]
      unfold impl_merged.f
      rw [if_pos (show upF 0 a = true ∧ (∀ x ∈ b, 0 < x.f0 ∧ x.f0 ≤ 1000) ∧ a.length + b.length ≤ 1000 from ⟨upH_upF a 0 g1.1, hbo, by omega⟩), Option.bind_some]
      by_cases h3 : (b.foldl insH a).length ≤ 30
      · rw [if_neg (by omega), if_pos (show goodH a = true ∧ True ∧ (b.foldl insH a).length ≤ 30 from ⟨h1, trivial, h3⟩)]
      · rw [if_pos (by omega), if_neg (fun h => h3 h.2.2)]
    · rw [if_neg (show ¬ (goodH a = true ∧ goodH b = true ∧ (b.foldl insH a).length ≤ 30) from fun h => h2 h.2.1)]
      rw [Bool.eq_false_iff.mpr h2]
      simp only [impl_MergeHaves.j0, Bool.not_false, if_true]
  · rw [if_neg h1, if_neg (show ¬ (goodH a = true ∧ goodH b = true ∧ (b.foldl insH a).length ≤ 30) from fun h => h1 h.1)]
    simp only [impl_MergeHaves.j0, if_true]
theorem spec_MergeHaves_f (a b : List S56) (k : Nat) (ha : a.length ≤ 4611686018427387904) (hb : b.length ≤ 4611686018427387904) (hk : a.length < k ∧ b.length < k ∧ 2030 < k) : spec_MergeHaves.f k a b = some (mergeR a b) := by
  obtain ⟨k, rfl⟩ : ∃ m, k = m + 1 := ⟨k - 1, by omega⟩
  unfold spec_MergeHaves.f mergeR
  rw [spec_goodH a _ ha hk.1, Option.bind_some]
  by_cases h1 : goodH a = true
  · rw [if_pos h1, spec_goodH b _ hb hk.2.1, Option.bind_some]
    by_cases h2 : goodH b = true
    · have g1 := (goodH_iff a).1 h1
      have g2 := (goodH_iff b).1 h2
      have hl := merge_len b a
      rw [h2]
      simp only [spec_MergeHaves.j0, Bool.not_true, Bool.false_eq_true, if_false]
      rw [spec_l7Merge_f a b k (by omega) (by omega), Option.bind_some, spec_goodH _ k (by omega) (by omega), Option.bind_some]
      have hg : goodH (b.foldl insH a) = decide ((b.foldl insH a).length ≤ 30) := by
        unfold goodH
        rw [merge_upH b a g1.1 (fun x hx => upH_ok b 0 g2.1 x hx), Bool.true_and]
      rw [hg]
      by_cases h3 : (b.foldl insH a).length ≤ 30
      · rw [if_pos (decide_eq_true h3), if_pos (show goodH a = true ∧ True ∧ (b.foldl insH a).length ≤ 30 from ⟨h1, trivial, h3⟩)]
      · rw [if_neg (by rw [decide_eq_false h3]; simp), if_neg (fun h => h3 h.2.2)]
    · rw [if_neg (show ¬ (goodH a = true ∧ goodH b = true ∧ (b.foldl insH a).length ≤ 30) from fun h => h2 h.2.1)]
      rw [Bool.eq_false_iff.mpr h2]
      simp only [spec_MergeHaves.j0, Bool.not_false, if_true]
  · rw [if_neg h1, if_neg (show ¬ (goodH a = true ∧ goodH b = true ∧ (b.foldl insH a).length ≤ 30) from fun h => h1 h.1)]
    simp only [spec_MergeHaves.j0, if_true]

-- rdt(60)
theorem rd_T60_at (l : List S60) (i : Nat) (h : i < l.length) : rd_T60 l i = l[i] := by
  simp [rd_T60, List.getD_eq_getElem?_getD, List.getElem?_eq_getElem h]

-- tos(60;56;laws_toHaveS;laws_toHave;⟨x.f0, x.f1⟩;8796093022208)
def cv60 (x : S60) : S56 := ⟨x.f0, x.f1⟩
theorem laws_toHaveS_l (l : List S60) (hn : l.length ≤ 4611686018427387904) (d : Nat) : ∀ (k i : Nat) (m : List S56), i + d = l.length → m.length = l.length → m.take i = (l.map cv60).take i → d < k →
    laws_toHaveS.l0 k l m i = some (l.map cv60) := by
  induction d with
  | zero =>
    intro k i m h hm ht hk
    obtain ⟨k, rfl⟩ : ∃ m, k = m + 1 := ⟨k - 1, by omega⟩
    simp only [laws_toHaveS.l0]
    rw [if_neg (by omega)]
    rw [List.take_of_length_le (by omega), List.take_of_length_le (by rw [List.length_map]; omega)] at ht
    rw [ht]
  | succ d ih =>
    intro k i m h hm ht hk
    obtain ⟨k, rfl⟩ : ∃ m, k = m + 1 := ⟨k - 1, by omega⟩
    simp only [laws_toHaveS.l0, laws_toHave.f, Option.bind_some]
    rw [if_pos (by omega), if_pos (by omega), if_pos (by omega), w64 (by omega) (by omega), show ((i : Int) + 1) = ((i + 1 : Nat) : Int) by omega]
    refine ih k (i + 1) _ (by omega) (by rw [List.length_set]; exact hm) ?_ (by omega)
    rw [Int.toNat_natCast]
    exact set_take _ _ i (by rw [List.length_map]; omega) (by rw [List.length_map]; exact hm) ht _ (by rw [List.getElem?_map, List.getElem?_eq_getElem (by omega), rd_T60_at l i (by omega)]; rfl)
theorem laws_toHaveS_eq (l : List S60) (k : Nat) (hn : l.length ≤ 8796093022208) (hk : l.length < k) : laws_toHaveS.f k l = some (l.map cv60) := by
  unfold laws_toHaveS.f
  rw [if_pos (by omega), if_pos (by omega)]
  exact laws_toHaveS_l l (by omega) l.length k 0 _ (by omega) (by simp) (by simp) hk

-- eqs(56;laws_eqHaveS;laws_eqHave)
theorem laws_eqHaveS_l (l : List S56) (hn : l.length ≤ 4611686018427387904) (d : Nat) : ∀ (k i : Nat), i + d = l.length → d < k → laws_eqHaveS.l0 k l l i = some true := by
  induction d with
  | zero =>
    intro k i h hk
    obtain ⟨k, rfl⟩ : ∃ m, k = m + 1 := ⟨k - 1, by omega⟩
    simp only [laws_eqHaveS.l0]
    rw [if_neg (by omega)]
  | succ d ih =>
    intro k i h hk
    obtain ⟨k, rfl⟩ : ∃ m, k = m + 1 := ⟨k - 1, by omega⟩
    have h1 := ih k (i + 1) (by omega) (by omega)
    simp only [laws_eqHaveS.l0]
    rw [if_pos (by omega), if_pos (by omega), if_pos (by omega), w64 (by omega) (by omega), show ((i : Int) + 1) = ((i + 1 : Nat) : Int) by omega, h1]
    unfold laws_eqHave.f
    simp
theorem laws_eqHaveS_refl (l : List S56) (k : Nat) (hn : l.length ≤ 4611686018427387904) (hk : l.length < k) : laws_eqHaveS.f k l l = some true := by
  unfold laws_eqHaveS.f
  rw [if_pos rfl]
  exact laws_eqHaveS_l l hn l.length k 0 (by omega) hk

-- marks(56;laws_markHaveS;laws_heldHaveS;⟨m, m + 1⟩;2;m + 2 * (i : Int) + 1 + 1)
def el56 (m : Int) : S56 := ⟨m, m + 1⟩
/-- What a marked list of so many holds. -/
def mk56 (m : Int) (n : Nat) : List S56 := (List.range n).map fun i : Nat => el56 (m + 2 * (i : Int))
theorem mk56_len (m : Int) (n : Nat) : (mk56 m n).length = n := by simp [mk56]
theorem rd_T56_set (l : List S56) (i : Nat) (v : S56) (h : i < l.length) : rd_T56 (l.set (i : Int).toNat v) (i : Int) = v := by
  simp [rd_T56, List.getD_eq_getElem?_getD, h]
theorem set_set56 (l : List S56) (i : Int) (a b : S56) : (l.set i.toNat a).set i.toNat b = l.set i.toNat b := by rw [List.set_set]
theorem laws_markHaveS_l (m : Int) (n : Nat) (hm : 0 ≤ m ∧ m ≤ 1152921504606846976) (hn : n ≤ 35184372088832) (d : Nat) : ∀ (k i : Nat) (l : List S56), i + d = n → l.length = n → d < k → l.take i = (mk56 m n).take i →
    laws_markHaveS.l0 k l (m + 2 * (i : Int)) i = some (m + 2 * (n : Int), mk56 m n) := by
  have hw : ∀ x : Int, 0 ≤ x → x ≤ 2305843009213693952 → wrap64 (x + 1) = x + 1 := fun x h0 h1 => w64 (by omega) (by omega)
  induction d with
  | zero =>
    intro k i l h hl hk ht
    obtain ⟨k, rfl⟩ : ∃ m, k = m + 1 := ⟨k - 1, by omega⟩
    simp only [laws_markHaveS.l0]
    rw [if_neg (by omega)]
    rw [List.take_of_length_le (by omega), List.take_of_length_le (by rw [mk56_len]; omega)] at ht
    rw [ht, show i = n by omega]
  | succ d ih =>
    intro k i l h hl hk ht
    obtain ⟨k, rfl⟩ : ∃ m, k = m + 1 := ⟨k - 1, by omega⟩
    have hi : i < l.length := by omega
    simp only [laws_markHaveS.l0]
    rw [if_pos (by omega), if_pos (by omega)]
    simp only [Option.bind_some, rd_T56_set l i _ hi, set_set56]
    simp (disch := omega) only [hw]
    have h1 := ih k (i + 1) (l.set (i : Int).toNat (el56 (m + 2 * (i : Int)))) (by omega) (by rw [List.length_set]; exact hl) (by omega) (by
      rw [Int.toNat_natCast]
      exact set_take _ _ i (by rw [mk56_len]; omega) (by rw [mk56_len]; exact hl) ht _ (by simp [mk56, show i < n by omega]))
    rw [show m + 2 * (i : Int) + 1 + 1 = m + 2 * ((i + 1 : Nat) : Int) by omega, show (i : Int) + 1 = ((i + 1 : Nat) : Int) by omega]
    exact h1
theorem laws_markHaveS_eq (l : List S56) (m : Int) (k : Nat) (hm : 0 ≤ m ∧ m ≤ 1152921504606846976) (hn : l.length ≤ 35184372088832) (hk : l.length < k) : laws_markHaveS.f k l m = some (m + 2 * (l.length : Int), mk56 m l.length) := by
  have h := laws_markHaveS_l m l.length hm hn l.length k 0 l (by omega) rfl hk (by simp)
  simp only [Int.natCast_zero, show ((0 : Nat) : Int) = 0 from rfl, Int.mul_zero, Int.add_zero] at h
  exact h
theorem laws_heldHaveS_l (m : Int) (n : Nat) (hm : 0 ≤ m ∧ m ≤ 1152921504606846976) (hn : n ≤ 35184372088832) (d : Nat) : ∀ (k i : Nat), i + d = n → d < k →
    laws_heldHaveS.l0 k (mk56 m n) (m + 2 * (i : Int)) i = some (m + 2 * (n : Int)) := by
  have hw : ∀ x : Int, 0 ≤ x → x ≤ 2305843009213693952 → wrap64 (x + 1) = x + 1 := fun x h0 h1 => w64 (by omega) (by omega)
  induction d with
  | zero =>
    intro k i h hk
    obtain ⟨k, rfl⟩ : ∃ m, k = m + 1 := ⟨k - 1, by omega⟩
    simp only [laws_heldHaveS.l0]
    rw [if_neg (by rw [mk56_len]; omega), show i = n by omega]
  | succ d ih =>
    intro k i h hk
    obtain ⟨k, rfl⟩ : ∃ m, k = m + 1 := ⟨k - 1, by omega⟩
    have hr : rd_T56 (mk56 m n) i = el56 (m + 2 * (i : Int)) := by
      rw [rd_T56_at _ i (by rw [mk56_len]; omega)]
      simp [mk56]
    simp only [laws_heldHaveS.l0]
    rw [if_pos (by rw [mk56_len]; omega), if_pos (by omega), hr]
    simp (disch := omega) only [hw]
    have h1 := ih k (i + 1) (by omega) (by omega)
    rw [show m + 2 * (i : Int) + 1 + 1 = m + 2 * ((i + 1 : Nat) : Int) by omega, show (i : Int) + 1 = ((i + 1 : Nat) : Int) by omega, h1]
    simp [el56]
theorem laws_heldHaveS_eq (m : Int) (n k : Nat) (hm : 0 ≤ m ∧ m ≤ 1152921504606846976) (hn : n ≤ 35184372088832) (hk : n < k) : laws_heldHaveS.f k (mk56 m n) m = some (m + 2 * (n : Int)) := by
  have h := laws_heldHaveS_l m n hm hn n k 0 (by omega) hk
  simp only [Int.natCast_zero, show ((0 : Nat) : Int) = 0 from rfl, Int.mul_zero, Int.add_zero] at h
  exact h

theorem FnExactMergeHaves : laws_FnExactMergeHaves.PureS := by
  intro l0 l1 ⟨hn0, _⟩ ⟨hn1, _⟩
  obtain ⟨K, hK⟩ : ∃ K, K = l0.length + l1.length + 3000 := ⟨_, rfl⟩
  refine ⟨K, ?_⟩
  have hm0 : (l0.map cv60).length = l0.length := List.length_map _
  have hm1 : (l1.map cv60).length = l1.length := List.length_map _
  have ht0 := laws_toHaveS_eq l0 K (by omega) (by omega)
  have ht1 := laws_toHaveS_eq l1 K (by omega) (by omega)
  unfold laws_FnExactMergeHaves.f laws_szHaveS.f
  rw [w64 (x := 1048576 - (l0.length : Int)) (by omega) (by omega)]
  by_cases h0 : 1048576 - (l0.length : Int) < 0
  · rw [if_pos h0]
    simp
  · rw [if_neg h0]
    simp only [Option.bind_some]
    rw [if_neg h0, w64 (x := 1048576 - (l0.length : Int) - (l1.length : Int)) (by omega) (by omega)]
    by_cases h1 : 1048576 - (l0.length : Int) - (l1.length : Int) < 0
    · rw [if_pos h1]
      simp
    · rw [if_neg h1]
      simp only [Option.bind_some]
      rw [if_neg h1, ht0, Option.bind_some, ht1, Option.bind_some]
      rw [spec_MergeHaves_f _ _ K (by omega) (by omega) (by omega), Option.bind_some, impl_MergeHaves_f _ _ K (by omega) (by omega) (by omega), Option.bind_some]
      have hl := mergeR_len (l0.map cv60) (l1.map cv60)
      generalize mergeR (l0.map cv60) (l1.map cv60) = r at hl
      rw [laws_eqHaveS_refl _ K (by omega) (by omega), Option.bind_some, if_pos rfl, if_pos rfl, laws_eqHaveS_refl _ K (by omega) (by omega), Option.bind_some, if_pos rfl, laws_eqHaveS_refl _ K (by omega) (by omega), Option.bind_some, if_pos rfl]
      rw [laws_markHaveS_eq _ 1 K (by omega) (by omega) (by omega), Option.bind_some, laws_markHaveS_eq _ _ K (by omega) (by omega) (by omega), Option.bind_some, if_pos (by omega)]
      rw [laws_markHaveS_eq _ 1 K (by omega) (by omega) (by omega), Option.bind_some, laws_heldHaveS_eq 1 _ K (by omega) (by omega) (by omega), Option.bind_some, if_pos rfl, if_pos (by omega)]

end Go.Proofs.Ytpcimkpklmemnaa.Pure
