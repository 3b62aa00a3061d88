/- FnExactCutHaves answers true for each list of entries and each number. No condition beyond the row's own bounds. -/
import Derived.Test.YtpcimkpklmemnaaSFnExactCutHaves
namespace Go.Proofs.Ytpcimkpklmemnaa.Pure
open Go.RowKit Go.Proofs.Ytpcimkpklmemnaa.PFnExactCutHaves Go.Proofs.YtpcimkpklmemnaaW.PrintWords Go.Proofs.YtpcimkpklmemnaaW.PrintLast
set_option linter.unusedVariables false
set_option linter.unusedSimpArgs false

-- w64
theorem w64 {x : Int} (h0 : -9223372036854775808 ≤ x) (h1 : x ≤ 9223372036854775807) : wrap64 x = x := by
  unfold wrap64
  omega
theorem tm {x y : Int} (h0 : 0 ≤ x) : Int.tmod x y = x % y := Int.tmod_eq_emod_of_nonneg h0
theorem wf64 {x : Int} (h : (Lit.int .i64 x).wf = true) : -9223372036854775808 ≤ x ∧ x ≤ 9223372036854775807 := by
  simp [Lit.wf, IntKind.min, IntKind.max, IntKind.signed, IntKind.bits] at h
  omega

-- helps
theorem set_take {α : Type} (m L : List α) (i : Nat) (hi : i < L.length) (hm : m.length = L.length) (ht : m.take i = L.take i) (v : α) (hv : L[i]? = some v) : (m.set i v).take (i + 1) = L.take (i + 1) := by
  rw [List.take_set, List.take_succ_eq_append_getElem (by omega), List.take_succ_eq_append_getElem hi, ht, List.set_append_right _ _ (by rw [List.length_take]; omega)]
  rw [List.length_take, show i - min i L.length = 0 by omega]
  rw [List.getElem?_eq_getElem hi] at hv
  rw [Option.some.inj hv]
  rfl
/-- From some number of rounds on: one number for a pair. -/
theorem ev_at {α : Type} {g : Nat → Option α} {r : α} (h : Ev g r) : ∃ K, ∀ k, K ≤ k → g k = some r := h
theorem ev_some {α : Type} {g : Nat → Option α} {r : α} (h : ∀ k, g k = some r) : Ev g r := ⟨0, fun k _ => h k⟩
theorem ev_ge {α : Type} {g : Nat → Option α} {r : α} (K : Nat) (h : ∀ k, K ≤ k → g k = some r) : Ev g r := ⟨K, h⟩

-- rdt(56)
theorem rd_T56_at (l : List S56) (i : Nat) (h : i < l.length) : rd_T56 l i = l[i] := by
  simp [rd_T56, List.getD_eq_getElem?_getD, List.getElem?_eq_getElem h]

-- inrange(spec_l1In)
theorem spec_l1In_eq (a lo hi : Int) : spec_l1In.f a lo hi = some (decide (lo ≤ a ∧ a ≤ hi)) := by
  unfold spec_l1In.f
  by_cases h : lo ≤ a
  · rw [if_pos (show a ≥ lo from h)]
    simp [h]
  · rw [if_neg (show ¬ a ≥ lo from h)]
    simp [h]

-- goodh(56)
theorem in_same (a b c : Int) : impl_in.f a b c = spec_l1In.f a b c := rfl
theorem goodh_l : ∀ (k : Nat) (x0 x5 : List S56) (x6 x7 : Int), impl_GoodHaves.l0 k x0 x5 x6 x7 = spec_GoodHaves.l0 k x0 x5 x6 x7
  | 0, _, _, _, _ => rfl
  | k + 1, x0, x5, x6, x7 => by simp only [impl_GoodHaves.l0, spec_GoodHaves.l0, in_same, goodh_l k]
theorem goodh_same (k : Nat) (l : List S56) : impl_GoodHaves.f k l = spec_GoodHaves.f k l := goodh_l k l l _ _
def okH (x : S56) : Bool := decide (1 ≤ x.f0 ∧ x.f0 ≤ 1000) && decide (1 ≤ x.f1 ∧ x.f1 ≤ 1000)
/-- Entries with rising Froms behind one. -/
def upH (p : Int) : List S56 → Bool
  | [] => true
  | x :: r => okH x && (decide (p < x.f0) && upH x.f0 r)
def goodH (l : List S56) : Bool := upH 0 l && decide (l.length ≤ 30)
def before (l : List S56) : Nat → Int
  | 0 => 0
  | i + 1 => (rd_T56 l i).f0
theorem drop_H (l : List S56) (i : Nat) (h : i < l.length) : l.drop i = rd_T56 l i :: l.drop (i + 1) := by
  rw [rd_T56_at l i h]
  exact List.drop_eq_getElem_cons h
theorem wi (i : Nat) (h : i ≤ 4611686018427387904) : wrap64 ((i : Int) + 1) = ((i + 1 : Nat) : Int) := by
  rw [w64 (by omega) (by omega)]
  omega
theorem spec_goodH_l (l : List S56) (hn : l.length ≤ 4611686018427387904) (d : Nat) : ∀ (k i : Nat), i + d = l.length → d < k →
    spec_GoodHaves.l0 k l l l.length i = some (upH (before l i) (l.drop i) && decide (l.length ≤ 30)) := by
  induction d with
  | zero =>
    intro k i h hk
    obtain ⟨k, rfl⟩ : ∃ m, k = m + 1 := ⟨k - 1, by omega⟩
    simp only [spec_GoodHaves.l0]
    rw [if_neg (by omega), List.drop_of_length_le (by omega)]
    simp only [upH, Bool.true_and]
    by_cases h1 : l.length ≤ 30
    · rw [decide_eq_true h1, decide_eq_true (show (l.length : Int) ≤ 30 by omega)]
    · rw [decide_eq_false h1, decide_eq_false (show ¬ (l.length : Int) ≤ 30 by omega)]
  | succ d ih =>
    intro k i h hk
    obtain ⟨k, rfl⟩ : ∃ m, k = m + 1 := ⟨k - 1, by omega⟩
    have ih := ih k (i + 1) (by omega) (by omega)
    rw [drop_H l i (by omega)]
    simp only [spec_GoodHaves.l0]
    rw [if_pos (by omega), if_pos (by omega), if_pos (by omega), spec_l1In_eq, spec_l1In_eq, wi _ (by omega)]
    simp only [Option.bind_some, upH, okH]
    by_cases ho : 1 ≤ (rd_T56 l i).f0 ∧ (rd_T56 l i).f0 ≤ 1000
    · rw [decide_eq_true ho]
      cases ho2 : decide (1 ≤ (rd_T56 l i).f1 ∧ (rd_T56 l i).f1 ≤ 1000)
      · simp
      · simp only [if_true, Bool.true_and]
        cases i with
        | zero =>
          rw [if_neg (by omega)]
          have hp : (0 : Int) < (rd_T56 l ((0 : Nat) : Int)).f0 := by omega
          rw [ih, show before l 0 = 0 from rfl, decide_eq_true hp]
          simp only [Bool.true_and]
          rfl
        | succ i =>
          rw [if_pos (by omega), w64 (x := ((i + 1 : Nat) : Int) - 1) (by omega) (by omega), show ((i + 1 : Nat) : Int) - 1 = (i : Int) by omega, if_pos (by omega), if_pos (by omega)]
          have hb : before l (i + 1) = (rd_T56 l i).f0 := rfl
          by_cases hlt : before l (i + 1) < (rd_T56 l ((i + 1 : Nat) : Int)).f0
          · rw [if_neg (by omega), ih, decide_eq_true hlt]
            simp only [Bool.true_and]
            rfl
          · rw [if_pos (by omega), decide_eq_false hlt]
            simp
    · rw [decide_eq_false ho]
      simp
theorem spec_goodH (l : List S56) (k : Nat) (hn : l.length ≤ 4611686018427387904) (hk : l.length < k) : spec_GoodHaves.f k l = some (goodH l) := by
  have h := spec_goodH_l l hn l.length k 0 (by omega) hk
  rw [List.drop_zero] at h
  exact h
theorem impl_goodH (l : List S56) (k : Nat) (hn : l.length ≤ 4611686018427387904) (hk : l.length < k) : impl_GoodHaves.f k l = some (goodH l) := by
  rw [goodh_same]
  exact spec_goodH l k hn hk

-- cut7
/-- What a list is cut into: so many a piece (d: rounds enough). -/
def cutR (p : Nat) : Nat → Int → List S56 → List S37
  | 0, lo, l => [⟨lo, 1000, l⟩]
  | d + 1, lo, l => if l.length ≤ p then [⟨lo, 1000, l⟩] else ⟨lo, (rd_T56 l ((p - 1 : Nat) : Int)).f0, l.take p⟩ :: cutR p d ((rd_T56 l ((p - 1 : Nat) : Int)).f0 + 1) (l.drop p)
theorem cutR_short (p d : Nat) (lo : Int) (l : List S56) (h : l.length ≤ p) : cutR p d lo l = [⟨lo, 1000, l⟩] := by
  cases d with
  | zero => rfl
  | succ d => unfold cutR; rw [if_pos h]
theorem cutR_long (p d : Nat) (lo : Int) (l : List S56) (h : ¬ l.length ≤ p) : cutR p (d + 1) lo l = ⟨lo, (rd_T56 l ((p - 1 : Nat) : Int)).f0, l.take p⟩ :: cutR p d ((rd_T56 l ((p - 1 : Nat) : Int)).f0 + 1) (l.drop p) := by
  rw [cutR, if_neg h]
theorem rd56_in (l : List S56) (hok : ∀ x ∈ l, 1 ≤ x.f0 ∧ x.f0 ≤ 1000) (i : Nat) (h : i < l.length) : 1 ≤ (rd_T56 l (i : Int)).f0 ∧ (rd_T56 l (i : Int)).f0 ≤ 1000 := by
  rw [rd_T56_at l i h]
  exact hok _ (List.getElem_mem _)
theorem impl_cut_l (p : Nat) (hp : 1 ≤ p ∧ p ≤ 30) (d : Nat) : ∀ (l : List S56) (lo : Int) (out : List S37) (k : Nat), (∀ x ∈ l, 1 ≤ x.f0 ∧ x.f0 ≤ 1000) → l.length ≤ d → out.length + d ≤ 1000 → d < k → impl_cut.l0 k l p out lo = some (out ++ cutR p d lo l) := by
  induction d with
  | zero =>
    intro l lo out k hok hd ho hk
    obtain ⟨k, rfl⟩ : ∃ m, k = m + 1 := ⟨k - 1, by omega⟩
    obtain rfl : l = [] := List.eq_nil_of_length_eq_zero (by omega)
    have e : mn (p : Int) ((([] : List S56).length : Nat) : Int) = 0 := by simp only [mn, List.length_nil]; split <;> omega
    simp only [impl_cut.l0]
    rw [e, if_pos (by omega), if_pos (by simp)]
    simp only [Int.toNat_zero, List.take_nil, List.drop_nil]
    unfold impl_Have.f
    rw [if_pos (by simp)]
    simp only [Option.bind_some, List.length_nil]
    rw [if_pos (by simp), if_pos (by omega)]
    rfl
  | succ d ih =>
    intro l lo out k hok hd ho hk
    obtain ⟨k, rfl⟩ : ∃ m, k = m + 1 := ⟨k - 1, by omega⟩
    by_cases hl : l.length ≤ p
    · have e : mn (p : Int) (l.length : Int) = (l.length : Int) := by simp only [mn]; split <;> omega
      rw [cutR_short p _ lo l hl]
      simp only [impl_cut.l0]
      rw [e, if_pos (by omega), if_pos (by omega), Int.toNat_natCast, List.take_length, List.drop_length]
      unfold impl_Have.f
      rw [if_pos (by omega)]
      simp only [Option.bind_some, List.length_nil]
      rw [if_pos (by simp), if_pos (by omega)]
    · have e : mn (p : Int) (l.length : Int) = (p : Int) := by simp only [mn]; split <;> omega
      have ht : (l.take p).length = p := by rw [List.length_take]; omega
      have hdl : (l.drop p).length = l.length - p := List.length_drop
      have er : rd_T56 (l.take p) ((p - 1 : Nat) : Int) = rd_T56 l ((p - 1 : Nat) : Int) := by
        rw [rd_T56_at _ _ (by omega), rd_T56_at l _ (by omega), List.getElem_take]
      have hr := rd56_in l hok (p - 1) (by omega)
      have hw : wrap64 ((p : Int) - 1) = ((p - 1 : Nat) : Int) := by rw [w64 (by omega) (by omega)]; omega
      simp only [impl_cut.l0]
      rw [e, if_pos (by omega), if_pos (by omega), Int.toNat_natCast]
      unfold impl_Have.f
      rw [if_pos (by omega)]
      simp only [Option.bind_some]
      rw [if_neg (by omega), hw, if_pos (by omega), if_pos (by omega), if_pos (by omega), er, w64 (by omega) (by omega)]
      rw [ih (l.drop p) _ _ k (fun x hx => hok x (List.mem_of_mem_drop hx)) (by omega) (by rw [List.length_append, List.length_singleton]; omega) (by omega)]
      rw [cutR_long p d lo l hl, List.append_assoc]
      rfl
theorem impl_cut_f (p : Nat) (hp : 1 ≤ p ∧ p ≤ 30) (l : List S56) (k : Nat) (hok : ∀ x ∈ l, 1 ≤ x.f0 ∧ x.f0 ≤ 1000) (hl : l.length ≤ 30) (hk : 30 < k) : impl_cut.f k l p = some (cutR p 30 1 l) := by
  have h := impl_cut_l p hp 30 l 1 [] k hok hl (by simp) hk
  rw [List.nil_append] at h
  exact h
theorem least_eq (a b : Int) : spec_l1Least.f a b = some (if a < b then a else b) := by
  unfold spec_l1Least.f
  split <;> rfl
theorem spec_cut_l (p : Nat) (hp : 1 ≤ p ∧ p ≤ 30) (l : List S56) (hok : ∀ x ∈ l, 1 ≤ x.f0 ∧ x.f0 ≤ 1000) (hn : l.length ≤ 30) (d : Nat) : ∀ (i : Nat) (lo : Int) (out : List S37) (k : Nat), i ≤ l.length → (i < l.length ∨ i = 0) → l.length - i ≤ d → out.length + d ≤ 1000 → d + d + 4 < k → spec_l7Cut.l0 k l p out lo i = some (out ++ cutR p d lo (l.drop i)) := by
  induction d with
  | zero =>
    intro i lo out k hi hor hd ho hk
    obtain ⟨k, rfl⟩ : ∃ m, k = m + 4 := ⟨k - 4, by omega⟩
    obtain rfl : i = 0 := by omega
    obtain rfl : l = [] := List.eq_nil_of_length_eq_zero (by omega)
    simp only [spec_l7Cut.l0, spec_l7Cut.j1, List.length_nil]
    rw [if_neg (by omega)]
    rw [show ((((0 : Nat) : Int) == 0) = true) from rfl]
    rw [if_pos rfl, w64 (by omega) (by omega), least_eq]
    simp only [Option.bind_some]
    rw [if_pos (show ((0 : Nat) : Int) < ((0 : Nat) : Int) + (p : Int) by omega)]
    rw [if_neg (by omega), if_pos (by omega), if_pos (by omega), if_pos (by omega)]
    simp only [List.take_nil, List.drop_nil, List.append_nil, List.length_nil]
    rw [if_pos (by omega), if_pos (by omega), if_neg (by omega)]
    rw [show ((((0 : Nat) : Int) + (p : Int) == 0) = false) from by rw [beq_eq_false_iff_ne]; omega]
    simp [cutR]
  | succ d ih =>
    intro i lo out k hi hor hd ho hk
    obtain ⟨k, rfl⟩ : ∃ m, k = m + 4 := ⟨k - 4, by omega⟩
    have hj : spec_l7Cut.l0 (k + 4) l p out lo i = spec_l7Cut.j1 (k + 3) l p out lo i true := by
      simp only [spec_l7Cut.l0]
      rcases hor with h | rfl
      · rw [if_pos (by omega)]
      · split
        · rfl
        · rfl
    rw [hj]
    simp only [spec_l7Cut.j1, if_true]
    rw [w64 (x := (i : Int) + (p : Int)) (by omega) (by omega), least_eq]
    simp only [Option.bind_some]
    have hdl : (l.drop i).length = l.length - i := List.length_drop
    by_cases hl : l.length ≤ i + p
    · have e : (if (l.length : Int) < (i : Int) + (p : Int) then (l.length : Int) else (i : Int) + (p : Int)) = (l.length : Int) := by split <;> omega
      rw [e, if_neg (by omega), if_pos (by omega), if_pos (by omega), if_pos (by omega), Int.toNat_natCast, Int.toNat_natCast, List.take_length]
      simp only [List.nil_append]
      rw [if_pos (by simp only [List.length_nil]; omega), if_pos (by omega), cutR_short p _ lo _ (by omega)]
      simp only [spec_l7Cut.l0, spec_l7Cut.j1]
      rw [if_neg (by omega), show (((i : Int) + (p : Int) == 0) = false) from by rw [beq_eq_false_iff_ne]; omega]
      simp
    · have e : (if (l.length : Int) < (i : Int) + (p : Int) then (l.length : Int) else (i : Int) + (p : Int)) = ((i + p : Nat) : Int) := by split <;> omega
      have hw : wrap64 (((i + p : Nat) : Int) - 1) = ((i + p - 1 : Nat) : Int) := by rw [w64 (by omega) (by omega)]; omega
      have er : rd_T56 l ((i + p - 1 : Nat) : Int) = rd_T56 (l.drop i) ((p - 1 : Nat) : Int) := by
        rw [rd_T56_at _ _ (by omega), rd_T56_at _ _ (by omega), List.getElem_drop]
        congr 1
        omega
      have hr := rd56_in l hok (i + p - 1) (by omega)
      have et : (l.take (i + p)).drop i = (l.drop i).take p := by rw [List.drop_take]; congr 1; omega
      have htl : ((l.drop i).take p).length = p := by rw [List.length_take]; omega
      rw [e, if_pos (by omega), hw, if_pos (by omega), if_pos (by omega), if_pos (by omega), if_pos (by omega), if_pos (by omega), Int.toNat_natCast, Int.toNat_natCast, et]
      simp only [List.nil_append]
      rw [if_pos (by simp only [List.length_nil]; omega), if_pos (by omega)]
      rw [er] at hr
      rw [er, w64 (by omega) (by omega), show (i : Int) + (p : Int) = ((i + p : Nat) : Int) by omega]
      rw [ih (i + p) _ _ (k + 2) (by omega) (by omega) (by omega) (by rw [List.length_append, List.length_singleton]; omega) (by omega)]
      rw [cutR_long p d lo _ (by omega), List.append_assoc, List.drop_drop]
      rfl
theorem spec_cut_f (p : Nat) (hp : 1 ≤ p ∧ p ≤ 30) (l : List S56) (k : Nat) (hok : ∀ x ∈ l, 1 ≤ x.f0 ∧ x.f0 ≤ 1000) (hl : l.length ≤ 30) (hk : 64 < k) : spec_l7Cut.f k l p = some (cutR p 30 1 l) := by
  have h := spec_cut_l p hp l hok hl 30 0 1 [] k (by omega) (by omega) (by omega) (by simp) (by omega)
  rw [List.nil_append, List.drop_zero] at h
  exact h
theorem cutR_all (p : Nat) : ∀ (d : Nat) (lo : Int) (l : List S56), ∀ x ∈ cutR p d lo l, x.f2.length ≤ l.length
  | 0, lo, l, x, hx => by
    simp only [cutR, List.mem_singleton] at hx
    subst hx
    exact Nat.le_refl _
  | d + 1, lo, l, x, hx => by
    unfold cutR at hx
    split at hx
    · rw [List.mem_singleton] at hx
      subst hx
      exact Nat.le_refl _
    · rcases List.mem_cons.1 hx with rfl | hx
      · simp only [List.length_take]; omega
      · have := cutR_all p d _ _ x hx
        rw [List.length_drop] at this
        omega
theorem cutR_len (p : Nat) : ∀ (d : Nat) (lo : Int) (l : List S56), (cutR p d lo l).length ≤ d + 1
  | 0, lo, l => by simp [cutR]
  | d + 1, lo, l => by
    unfold cutR
    split
    · simp
    · have := cutR_len p d ((rd_T56 l ((p - 1 : Nat) : Int)).f0 + 1) (l.drop p)
      rw [List.length_cons]
      omega
theorem upH_all : ∀ (l : List S56) (p : Int), upH p l = true → ∀ x ∈ l, okH x = true
  | [], _, _, x, hx => by simp at hx
  | y :: r, p, h, x, hx => by
    simp only [upH, Bool.and_eq_true] at h
    rcases List.mem_cons.1 hx with rfl | hx
    · exact h.1
    · exact upH_all r y.f0 h.2.2 x hx
theorem goodH_ok (l : List S56) (h : goodH l = true) : (∀ x ∈ l, (1 ≤ x.f0 ∧ x.f0 ≤ 1000) ∧ 1 ≤ x.f1 ∧ x.f1 ≤ 1000) ∧ l.length ≤ 30 := by
  simp only [goodH, Bool.and_eq_true, decide_eq_true_eq] at h
  refine ⟨fun x hx => ?_, h.2⟩
  have := upH_all l 0 h.1 x hx
  simpa [okH] using this
def cutHR (l : List S56) (n : Int) : List S37 × Bool := if goodH l = true ∧ (1 ≤ n ∧ n ≤ 30) then (cutR n.toNat 30 1 l, true) else ([], false)
theorem spec_CutHaves_f (l : List S56) (n : Int) (k : Nat) (hn : l.length ≤ 4611686018427387904) (hk : l.length + 64 < k) : spec_CutHaves.f k l n = some (cutHR l n) := by
  unfold spec_CutHaves.f cutHR
  rw [spec_goodH l k hn (by omega)]
  simp only [Option.bind_some]
  cases hg : goodH l
  · simp
  · rw [if_pos rfl, spec_l1In_eq]
    simp only [Option.bind_some]
    by_cases h : 1 ≤ n ∧ n ≤ 30
    · obtain ⟨m, rfl⟩ := Int.eq_ofNat_of_zero_le (show 0 ≤ n by omega)
      obtain ⟨h1, h2⟩ := goodH_ok l hg
      rw [decide_eq_true h, if_pos rfl, if_pos ⟨by simp, h⟩, Int.toNat_natCast]
      have e := spec_cut_f m (by omega) l k (fun x hx => (h1 x hx).1) h2 (by omega)
      rw [e]
      rfl
    · rw [decide_eq_false h, if_neg (by simp), if_neg (fun e => h e.2)]
theorem impl_CutHaves_f (l : List S56) (n : Int) (k : Nat) (hn : l.length ≤ 4611686018427387904) (hk : l.length + 64 < k) : impl_CutHaves.f k l n = some (cutHR l n) := by
  unfold impl_CutHaves.f cutHR
  rw [impl_goodH l k hn (by omega)]
  simp only [Option.bind_some]
  cases hg : goodH l
  · simp
  · rw [if_pos rfl, in_same, spec_l1In_eq]
    simp only [Option.bind_some]
    by_cases h : 1 ≤ n ∧ n ≤ 30
    · obtain ⟨m, rfl⟩ := Int.eq_ofNat_of_zero_le (show 0 ≤ n by omega)
      obtain ⟨h1, h2⟩ := goodH_ok l hg
      rw [decide_eq_true h, if_pos rfl, if_pos ⟨by simp, h⟩, Int.toNat_natCast]
      have e := impl_cut_f m (by omega) l k (fun x hx => (h1 x hx).1) h2 (by omega)
      rw [e]
      rfl
    · rw [decide_eq_false h, if_neg (by simp), if_neg (fun e => h e.2)]
theorem cutHR_bd (l : List S56) (n : Int) : (cutHR l n).1.length ≤ 31 ∧ ∀ x ∈ (cutHR l n).1, x.f2.length ≤ 30 := by
  unfold cutHR
  split
  · rename_i h
    obtain ⟨_, h2⟩ := goodH_ok l h.1
    exact ⟨cutR_len _ 30 _ _, fun x hx => Nat.le_trans (cutR_all _ _ _ _ x hx) h2⟩
  · exact ⟨by simp, fun x hx => by simp at hx⟩

-- rdt(60)
theorem rd_T60_at (l : List S60) (i : Nat) (h : i < l.length) : rd_T60 l i = l[i] := by
  simp [rd_T60, List.getD_eq_getElem?_getD, List.getElem?_eq_getElem h]

-- tos(60;56;laws_toHaveS;laws_toHave;⟨x.f0, x.f1⟩;8796093022208)
def cv60 (x : S60) : S56 := ⟨x.f0, x.f1⟩
theorem laws_toHaveS_l (l : List S60) (hn : l.length ≤ 4611686018427387904) (d : Nat) : ∀ (k i : Nat) (m : List S56), i + d = l.length → m.length = l.length → m.take i = (l.map cv60).take i → d < k →
    laws_toHaveS.l0 k l m i = some (l.map cv60) := by
  induction d with
  | zero =>
    intro k i m h hm ht hk
    obtain ⟨k, rfl⟩ : ∃ m, k = m + 1 := ⟨k - 1, by omega⟩
    simp only [laws_toHaveS.l0]
    rw [if_neg (by omega)]
    rw [List.take_of_length_le (by omega), List.take_of_length_le (by rw [List.length_map]; omega)] at ht
    rw [ht]
  | succ d ih =>
    intro k i m h hm ht hk
    obtain ⟨k, rfl⟩ : ∃ m, k = m + 1 := ⟨k - 1, by omega⟩
    simp only [laws_toHaveS.l0, laws_toHave.f, Option.bind_some]
    rw [if_pos (by omega), if_pos (by omega), if_pos (by omega), w64 (by omega) (by omega), show ((i : Int) + 1) = ((i + 1 : Nat) : Int) by omega]
    refine ih k (i + 1) _ (by omega) (by rw [List.length_set]; exact hm) ?_ (by omega)
    rw [Int.toNat_natCast]
    exact set_take _ _ i (by rw [List.length_map]; omega) (by rw [List.length_map]; exact hm) ht _ (by rw [List.getElem?_map, List.getElem?_eq_getElem (by omega), rd_T60_at l i (by omega)]; rfl)
theorem laws_toHaveS_eq (l : List S60) (k : Nat) (hn : l.length ≤ 8796093022208) (hk : l.length < k) : laws_toHaveS.f k l = some (l.map cv60) := by
  unfold laws_toHaveS.f
  rw [if_pos (by omega), if_pos (by omega)]
  exact laws_toHaveS_l l (by omega) l.length k 0 _ (by omega) (by simp) (by simp) hk

-- eqs(56;laws_eqHaveS;laws_eqHave)
theorem laws_eqHaveS_l (l : List S56) (hn : l.length ≤ 4611686018427387904) (d : Nat) : ∀ (k i : Nat), i + d = l.length → d < k → laws_eqHaveS.l0 k l l i = some true := by
  induction d with
  | zero =>
    intro k i h hk
    obtain ⟨k, rfl⟩ : ∃ m, k = m + 1 := ⟨k - 1, by omega⟩
    simp only [laws_eqHaveS.l0]
    rw [if_neg (by omega)]
  | succ d ih =>
    intro k i h hk
    obtain ⟨k, rfl⟩ : ∃ m, k = m + 1 := ⟨k - 1, by omega⟩
    have h1 := ih k (i + 1) (by omega) (by omega)
    simp only [laws_eqHaveS.l0]
    rw [if_pos (by omega), if_pos (by omega), if_pos (by omega), w64 (by omega) (by omega), show ((i : Int) + 1) = ((i + 1 : Nat) : Int) by omega, h1]
    unfold laws_eqHave.f
    simp
theorem laws_eqHaveS_refl (l : List S56) (k : Nat) (hn : l.length ≤ 4611686018427387904) (hk : l.length < k) : laws_eqHaveS.f k l l = some true := by
  unfold laws_eqHaveS.f
  rw [if_pos rfl]
  exact laws_eqHaveS_l l hn l.length k 0 (by omega) hk

-- rdt(37)
theorem rd_T37_at (l : List S37) (i : Nat) (h : i < l.length) : rd_T37 l i = l[i] := by
  simp [rd_T37, List.getD_eq_getElem?_getD, List.getElem?_eq_getElem h]

-- marks(56;laws_markHaveS;laws_heldHaveS;⟨m, m + 1⟩;2;m + 2 * (i : Int) + 1 + 1)
def el56 (m : Int) : S56 := ⟨m, m + 1⟩
/-- What a marked list of so many holds. -/
def mk56 (m : Int) (n : Nat) : List S56 := (List.range n).map fun i : Nat => el56 (m + 2 * (i : Int))
theorem mk56_len (m : Int) (n : Nat) : (mk56 m n).length = n := by simp [mk56]
theorem rd_T56_set (l : List S56) (i : Nat) (v : S56) (h : i < l.length) : rd_T56 (l.set (i : Int).toNat v) (i : Int) = v := by
  simp [rd_T56, List.getD_eq_getElem?_getD, h]
theorem set_set56 (l : List S56) (i : Int) (a b : S56) : (l.set i.toNat a).set i.toNat b = l.set i.toNat b := by rw [List.set_set]
theorem laws_markHaveS_l (m : Int) (n : Nat) (hm : 0 ≤ m ∧ m ≤ 1152921504606846976) (hn : n ≤ 35184372088832) (d : Nat) : ∀ (k i : Nat) (l : List S56), i + d = n → l.length = n → d < k → l.take i = (mk56 m n).take i →
    laws_markHaveS.l0 k l (m + 2 * (i : Int)) i = some (m + 2 * (n : Int), mk56 m n) := by
  have hw : ∀ x : Int, 0 ≤ x → x ≤ 2305843009213693952 → wrap64 (x + 1) = x + 1 := fun x h0 h1 => w64 (by omega) (by omega)
  induction d with
  | zero =>
    intro k i l h hl hk ht
    obtain ⟨k, rfl⟩ : ∃ m, k = m + 1 := ⟨k - 1, by omega⟩
    simp only [laws_markHaveS.l0]
    rw [if_neg (by omega)]
    rw [List.take_of_length_le (by omega), List.take_of_length_le (by rw [mk56_len]; omega)] at ht
    rw [ht, show i = n by omega]
  | succ d ih =>
    intro k i l h hl hk ht
    obtain ⟨k, rfl⟩ : ∃ m, k = m + 1 := ⟨k - 1, by omega⟩
    have hi : i < l.length := by omega
    simp only [laws_markHaveS.l0]
    rw [if_pos (by omega), if_pos (by omega)]
    simp only [Option.bind_some, rd_T56_set l i _ hi, set_set56]
    simp (disch := omega) only [hw]
    have h1 := ih k (i + 1) (l.set (i : Int).toNat (el56 (m + 2 * (i : Int)))) (by omega) (by rw [List.length_set]; exact hl) (by omega) (by
      rw [Int.toNat_natCast]
      exact set_take _ _ i (by rw [mk56_len]; omega) (by rw [mk56_len]; exact hl) ht _ (by simp [mk56, show i < n by omega]))
    rw [show m + 2 * (i : Int) + 1 + 1 = m + 2 * ((i + 1 : Nat) : Int) by omega, show (i : Int) + 1 = ((i + 1 : Nat) : Int) by omega]
    exact h1
theorem laws_markHaveS_eq (l : List S56) (m : Int) (k : Nat) (hm : 0 ≤ m ∧ m ≤ 1152921504606846976) (hn : l.length ≤ 35184372088832) (hk : l.length < k) : laws_markHaveS.f k l m = some (m + 2 * (l.length : Int), mk56 m l.length) := by
  have h := laws_markHaveS_l m l.length hm hn l.length k 0 l (by omega) rfl hk (by simp)
  simp only [Int.natCast_zero, show ((0 : Nat) : Int) = 0 from rfl, Int.mul_zero, Int.add_zero] at h
  exact h
theorem laws_heldHaveS_l (m : Int) (n : Nat) (hm : 0 ≤ m ∧ m ≤ 1152921504606846976) (hn : n ≤ 35184372088832) (d : Nat) : ∀ (k i : Nat), i + d = n → d < k →
    laws_heldHaveS.l0 k (mk56 m n) (m + 2 * (i : Int)) i = some (m + 2 * (n : Int)) := by
  have hw : ∀ x : Int, 0 ≤ x → x ≤ 2305843009213693952 → wrap64 (x + 1) = x + 1 := fun x h0 h1 => w64 (by omega) (by omega)
  induction d with
  | zero =>
    intro k i h hk
    obtain ⟨k, rfl⟩ : ∃ m, k = m + 1 := ⟨k - 1, by omega⟩
    simp only [laws_heldHaveS.l0]
    rw [if_neg (by rw [mk56_len]; omega), show i = n by omega]
  | succ d ih =>
    intro k i h hk
    obtain ⟨k, rfl⟩ : ∃ m, k = m + 1 := ⟨k - 1, by omega⟩
    have hr : rd_T56 (mk56 m n) i = el56 (m + 2 * (i : Int)) := by
      rw [rd_T56_at _ i (by rw [mk56_len]; omega)]
      simp [mk56]
    simp only [laws_heldHaveS.l0]
    rw [if_pos (by rw [mk56_len]; omega), if_pos (by omega), hr]
    simp (disch := omega) only [hw]
    have h1 := ih k (i + 1) (by omega) (by omega)
    rw [show m + 2 * (i : Int) + 1 + 1 = m + 2 * ((i + 1 : Nat) : Int) by omega, show (i : Int) + 1 = ((i + 1 : Nat) : Int) by omega, h1]
    simp [el56]
theorem laws_heldHaveS_eq (m : Int) (n k : Nat) (hm : 0 ≤ m ∧ m ≤ 1152921504606846976) (hn : n ≤ 35184372088832) (hk : n < k) : laws_heldHaveS.f k (mk56 m n) m = some (m + 2 * (n : Int)) := by
  have h := laws_heldHaveS_l m n hm hn n k 0 (by omega) hk
  simp only [Int.natCast_zero, show ((0 : Nat) : Int) = 0 from rfl, Int.mul_zero, Int.add_zero] at h
  exact h

-- summarks
def szS : List S37 → Nat
  | [] => 0
  | x :: l => 2 + 2 * x.f2.length + szS l
def mkS (m : Int) : List S37 → List S37
  | [] => []
  | x :: l => ⟨m, m + 1, mk56 (m + 2) x.f2.length⟩ :: mkS (m + 2 + 2 * (x.f2.length : Int)) l
theorem mkS_len : ∀ (l : List S37) (m : Int), (mkS m l).length = l.length
  | [], _ => rfl
  | x :: l, m => by simp [mkS, mkS_len l]
theorem szS_bd (B : Nat) : ∀ (l : List S37), (∀ x ∈ l, x.f2.length ≤ B) → szS l ≤ l.length * (2 + 2 * B)
  | [], _ => Nat.zero_le _
  | x :: l, h => by
    have h1 := szS_bd B l (fun y hy => h y (List.mem_cons_of_mem _ hy))
    have h2 := h x List.mem_cons_self
    simp only [szS, List.length_cons, Nat.add_mul, Nat.one_mul]
    omega
theorem rd37_mid (a : List S37) (x : S37) (b : List S37) : rd_T37 (a ++ x :: b) (a.length : Int) = x := by
  rw [rd_T37_at _ _ (by simp)]
  simp
theorem set37_mid (a : List S37) (x y : S37) (b : List S37) : (a ++ x :: b).set ((a.length : Int)).toNat y = (a ++ [y]) ++ b := by
  rw [Int.toNat_natCast, List.set_append_right _ _ (Nat.le_refl _), Nat.sub_self]
  simp
theorem markS_l (B : Nat) (hB : B ≤ 1000000) : ∀ (l a : List S37) (m : Int) (k : Nat), (∀ x ∈ l, x.f2.length ≤ B) → 0 ≤ m → m + szS l ≤ 1000000000000 → a.length + l.length ≤ 1000000 → l.length + B < k → laws_markSummaryS.l0 k (a ++ l) m a.length = some (m + szS l, a ++ mkS m l)
  | [], a, m, k, _, _, _, _, hk => by
    obtain ⟨k, rfl⟩ : ∃ m, k = m + 1 := ⟨k - 1, by omega⟩
    simp only [laws_markSummaryS.l0, List.append_nil]
    rw [if_neg (by omega)]
    simp [mkS, szS]
  | x :: l, a, m, k, hb, h0, hs, hl, hk => by
    obtain ⟨k, rfl⟩ : ∃ m, k = m + 1 := ⟨k - 1, by omega⟩
    have hx := hb x List.mem_cons_self
    simp only [szS] at hs
    rw [List.length_cons] at hl hk
    simp only [laws_markSummaryS.l0]
    rw [if_pos (by rw [List.length_append, List.length_cons]; omega), if_pos (by omega), rd37_mid, w64 (x := m + 1) (by omega) (by omega), w64 (x := m + 1 + 1) (by omega) (by omega), show m + 1 + 1 = m + 2 by omega, laws_markHaveS_eq x.f2 (m + 2) k (by omega) (by omega) (by omega)]
    simp only [Option.bind_some]
    rw [set37_mid, w64 (x := (a.length : Int) + 1) (by omega) (by omega)]
    have h := markS_l B hB l (a ++ [⟨m, m + 1, mk56 (m + 2) x.f2.length⟩]) (m + 2 + 2 * (x.f2.length : Int)) k (fun y hy => hb y (List.mem_cons_of_mem _ hy)) (by omega) (by omega) (by rw [List.length_append, List.length_singleton]; omega) (by omega)
    rw [List.length_append, List.length_singleton] at h
    rw [show (a.length : Int) + 1 = ((a.length + 1 : Nat) : Int) by omega, h]
    simp only [mkS, szS, List.append_assoc, List.singleton_append]
    congr 2
    omega
theorem markS (B : Nat) (hB : B ≤ 1000000) (l : List S37) (m : Int) (k : Nat) (hb : ∀ x ∈ l, x.f2.length ≤ B) (h0 : 0 ≤ m) (hs : m + szS l ≤ 1000000000000) (hl : l.length ≤ 1000000) (hk : l.length + B < k) : laws_markSummaryS.f k l m = some (m + szS l, mkS m l) := by
  have h := markS_l B hB l [] m k hb h0 hs (by simpa using hl) hk
  unfold laws_markSummaryS.f
  simpa using h
theorem heldS_l (B : Nat) (hB : B ≤ 1000000) : ∀ (l a : List S37) (m : Int) (k : Nat), (∀ x ∈ l, x.f2.length ≤ B) → 0 ≤ m → m + szS l ≤ 1000000000000 → a.length + l.length ≤ 1000000 → l.length + B < k → laws_heldSummaryS.l0 k (a ++ mkS m l) m a.length = some (m + szS l)
  | [], a, m, k, _, _, _, _, hk => by
    obtain ⟨k, rfl⟩ : ∃ m, k = m + 1 := ⟨k - 1, by omega⟩
    simp only [laws_heldSummaryS.l0, mkS, List.append_nil]
    rw [if_neg (by omega)]
    simp [szS]
  | x :: l, a, m, k, hb, h0, hs, hl, hk => by
    obtain ⟨k, rfl⟩ : ∃ m, k = m + 1 := ⟨k - 1, by omega⟩
    have hx := hb x List.mem_cons_self
    simp only [szS] at hs
    rw [List.length_cons] at hl hk
    rw [show mkS m (x :: l) = ⟨m, m + 1, mk56 (m + 2) x.f2.length⟩ :: mkS (m + 2 + 2 * (x.f2.length : Int)) l from rfl]
    simp only [laws_heldSummaryS.l0]
    rw [if_pos (by rw [List.length_append, List.length_cons]; omega), if_pos (by omega), rd37_mid, w64 (x := m + 1) (by omega) (by omega), w64 (x := m + 1 + 1) (by omega) (by omega), show m + 1 + 1 = m + 2 by omega, if_pos rfl, if_pos rfl, laws_heldHaveS_eq (m + 2) _ k (by omega) (by omega) (by omega)]
    simp only [Option.bind_some]
    rw [if_neg (by omega), w64 (x := (a.length : Int) + 1) (by omega) (by omega)]
    have h := heldS_l B hB l (a ++ [⟨m, m + 1, mk56 (m + 2) x.f2.length⟩]) (m + 2 + 2 * (x.f2.length : Int)) k (fun y hy => hb y (List.mem_cons_of_mem _ hy)) (by omega) (by omega) (by rw [List.length_append, List.length_singleton]; omega) (by omega)
    rw [List.length_append, List.length_singleton, List.append_assoc, List.singleton_append] at h
    rw [show (a.length : Int) + 1 = ((a.length + 1 : Nat) : Int) by omega, h]
    simp only [szS]
    congr 1
    omega
theorem heldS (B : Nat) (hB : B ≤ 1000000) (l : List S37) (m : Int) (k : Nat) (hb : ∀ x ∈ l, x.f2.length ≤ B) (h0 : 0 ≤ m) (hs : m + szS l ≤ 1000000000000) (hl : l.length ≤ 1000000) (hk : l.length + B < k) : laws_heldSummaryS.f k (mkS m l) m = some (m + szS l) := by
  have h := heldS_l B hB l [] m k hb h0 hs (by simpa using hl) hk
  unfold laws_heldSummaryS.f
  simpa using h
theorem eqSum_l (l : List S37) (B : Nat) (hn : l.length ≤ 1000000) (hB : B ≤ 1000000) (hb : ∀ x ∈ l, x.f2.length ≤ B) (d : Nat) : ∀ (k i : Nat), i + d = l.length → d + B < k → laws_eqSummaryS.l0 k l l i = some true := by
  induction d with
  | zero =>
    intro k i h hk
    obtain ⟨k, rfl⟩ : ∃ m, k = m + 1 := ⟨k - 1, by omega⟩
    simp only [laws_eqSummaryS.l0]
    rw [if_neg (by omega)]
  | succ d ih =>
    intro k i h hk
    obtain ⟨k, rfl⟩ : ∃ m, k = m + 1 := ⟨k - 1, by omega⟩
    have h1 := ih k (i + 1) (by omega) (by omega)
    have hx := hb (l[i]'(by omega)) (List.getElem_mem (by omega))
    simp only [laws_eqSummaryS.l0]
    rw [if_pos (by omega), if_pos (by omega), if_pos (by omega), rd_T37_at l i (by omega)]
    unfold laws_eqSummary.f
    rw [if_pos rfl, if_pos rfl, laws_eqHaveS_refl _ k (by omega) (by omega)]
    simp only [Option.bind_some, if_true]
    rw [w64 (by omega) (by omega), show ((i : Int) + 1) = ((i + 1 : Nat) : Int) by omega, h1]
theorem eqSum (l : List S37) (B k : Nat) (hn : l.length ≤ 1000000) (hB : B ≤ 1000000) (hb : ∀ x ∈ l, x.f2.length ≤ B) (hk : l.length + B < k) : laws_eqSummaryS.f k l l = some true := by
  unfold laws_eqSummaryS.f
  rw [if_pos rfl]
  exact eqSum_l l B hn hB hb l.length k 0 (by omega) hk

theorem FnExactCutHaves : laws_FnExactCutHaves.PureS := by
  intro l n ⟨hn, _⟩ _
  obtain ⟨K, hK⟩ : ∃ K, K = l.length + 1000 := ⟨_, rfl⟩
  refine ⟨K, ?_⟩
  have hm : (l.map cv60).length = l.length := List.length_map _
  have ht := fun k hk => laws_toHaveS_eq l k (by omega) hk
  unfold laws_FnExactCutHaves.f laws_szHaveS.f
  rw [w64 (by omega) (by omega)]
  by_cases h0 : 1048576 - (l.length : Int) < 0
  · rw [if_pos h0]
    simp
  · rw [if_neg h0]
    simp only [Option.bind_some]
    rw [if_neg h0, ht K (by omega)]
    simp only [Option.bind_some]
    rw [spec_CutHaves_f _ n K (by omega) (by omega), impl_CutHaves_f _ n K (by omega) (by omega)]
    obtain ⟨hl, hb⟩ := cutHR_bd (l.map cv60) n
    generalize cutHR (l.map cv60) n = r at hl hb
    have hs := szS_bd 30 r.1 hb
    have hs2 : r.1.length * (2 + 2 * 30) ≤ 31 * (2 + 2 * 30) := Nat.mul_le_mul_right _ hl
    simp only [Option.bind_some]
    rw [eqSum r.1 30 K (by omega) (by omega) hb (by omega)]
    simp only [Option.bind_some, if_true]
    rw [laws_eqHaveS_refl _ K (by omega) (by omega)]
    simp only [Option.bind_some, if_true]
    rw [laws_markHaveS_eq _ 1 K (by omega) (by omega) (by omega)]
    simp only [Option.bind_some]
    rw [if_pos (by omega), markS 30 (by omega) r.1 1 K hb (by omega) (by omega) (by omega) (by omega)]
    simp only [Option.bind_some]
    rw [heldS 30 (by omega) r.1 1 K hb (by omega) (by omega) (by omega) (by omega)]
    simp only [Option.bind_some]
    rw [if_pos trivial, if_pos (by omega)]

end Go.Proofs.Ytpcimkpklmemnaa.Pure
