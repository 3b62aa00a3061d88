/- FnHaves answers true for all drawn lists. No condition beyond the row's own bounds. -/
import Derived.Test.YtpcimkpklmemnaaSFnHaves
namespace Go.Proofs.Ytpcimkpklmemnaa.Pure
open Go.RowKit Go.Proofs.Ytpcimkpklmemnaa.PFnHaves Go.Proofs.YtpcimkpklmemnaaW.PrintWords Go.Proofs.YtpcimkpklmemnaaW.PrintLast
set_option linter.unusedVariables false
set_option linter.unusedSimpArgs false

-- w64
theorem w64 {x : Int} (h0 : -9223372036854775808 ≤ x) (h1 : x ≤ 9223372036854775807) : wrap64 x = x := by
  unfold wrap64
  omega
theorem tm {x y : Int} (h0 : 0 ≤ x) : Int.tmod x y = x % y := Int.tmod_eq_emod_of_nonneg h0
theorem wf64 {x : Int} (h : (Lit.int .i64 x).wf = true) : -9223372036854775808 ≤ x ∧ x ≤ 9223372036854775807 := by
  simp [Lit.wf, IntKind.min, IntKind.max, IntKind.signed, IntKind.bits] at h
  omega

-- helps
theorem set_take {α : Type} (m L : List α) (i : Nat) (hi : i < L.length) (hm : m.length = L.length) (ht : m.take i = L.take i) (v : α) (hv : L[i]? = some v) : (m.set i v).take (i + 1) = L.take (i + 1) := by
  rw [List.take_set, List.take_succ_eq_append_getElem (by omega), List.take_succ_eq_append_getElem hi, ht, List.set_append_right _ _ (by rw [List.length_take]; omega)]
  rw [List.length_take, show i - min i L.length = 0 by omega]
  rw [List.getElem?_eq_getElem hi] at hv
  rw [Option.some.inj hv]
  rfl
/-- From some number of rounds on: one number for a pair. -/
theorem ev_at {α : Type} {g : Nat → Option α} {r : α} (h : Ev g r) : ∃ K, ∀ k, K ≤ k → g k = some r := h
theorem ev_some {α : Type} {g : Nat → Option α} {r : α} (h : ∀ k, g k = some r) : Ev g r := ⟨0, fun k _ => h k⟩
theorem ev_ge {α : Type} {g : Nat → Option α} {r : α} (K : Nat) (h : ∀ k, K ≤ k → g k = some r) : Ev g r := ⟨K, h⟩

-- rdt(56)
theorem rd_T56_at (l : List S56) (i : Nat) (h : i < l.length) : rd_T56 l i = l[i] := by
  simp [rd_T56, List.getD_eq_getElem?_getD, List.getElem?_eq_getElem h]

-- inrange(spec_l1In)
theorem spec_l1In_eq (a lo hi : Int) : spec_l1In.f a lo hi = some (decide (lo ≤ a ∧ a ≤ hi)) := by
  unfold spec_l1In.f
  by_cases h : lo ≤ a
  · rw [if_pos (show a ≥ lo from h)]
    simp [h]
  · rw [if_neg (show ¬ a ≥ lo from h)]
    simp [h]

-- goodh(56)
theorem in_same (a b c : Int) : impl_in.f a b c = spec_l1In.f a b c := rfl
theorem goodh_l : ∀ (k : Nat) (x0 x5 : List S56) (x6 x7 : Int), impl_GoodHaves.l0 k x0 x5 x6 x7 = spec_GoodHaves.l0 k x0 x5 x6 x7
  | 0, _, _, _, _ => rfl
  | k + 1, x0, x5, x6, x7 => by simp only [impl_GoodHaves.l0, spec_GoodHaves.l0, in_same, goodh_l k]
theorem goodh_same (k : Nat) (l : List S56) : impl_GoodHaves.f k l = spec_GoodHaves.f k l := goodh_l k l l _ _
def okH (x : S56) : Bool := decide (1 ≤ x.f0 ∧ x.f0 ≤ 1000) && decide (1 ≤ x.f1 ∧ x.f1 ≤ 1000)
/-- Entries with rising Froms behind one. -/
def upH (p : Int) : List S56 → Bool
  | [] => true
  | x :: r => okH x && (decide (p < x.f0) && upH x.f0 r)
def goodH (l : List S56) : Bool := upH 0 l && decide (l.length ≤ 30)
def before (l : List S56) : Nat → Int
  | 0 => 0
  | i + 1 => (rd_T56 l i).f0
theorem drop_H (l : List S56) (i : Nat) (h : i < l.length) : l.drop i = rd_T56 l i :: l.drop (i + 1) := by
  rw [rd_T56_at l i h]
  exact List.drop_eq_getElem_cons h
theorem wi (i : Nat) (h : i ≤ 4611686018427387904) : wrap64 ((i : Int) + 1) = ((i + 1 : Nat) : Int) := by
  rw [w64 (by omega) (by omega)]
  omega
theorem spec_goodH_l (l : List S56) (hn : l.length ≤ 4611686018427387904) (d : Nat) : ∀ (k i : Nat), i + d = l.length → d < k →
    spec_GoodHaves.l0 k l l l.length i = some (upH (before l i) (l.drop i) && decide (l.length ≤ 30)) := by
  induction d with
  | zero =>
    intro k i h hk
    obtain ⟨k, rfl⟩ : ∃ m, k = m + 1 := ⟨k - 1, by omega⟩
    simp only [spec_GoodHaves.l0]
    rw [if_neg (by omega), List.drop_of_length_le (by omega)]
    simp only [upH, Bool.true_and]
    by_cases h1 : l.length ≤ 30
    · rw [decide_eq_true h1, decide_eq_true (show (l.length : Int) ≤ 30 by omega)]
    · rw [decide_eq_false h1, decide_eq_false (show ¬ (l.length : Int) ≤ 30 by omega)]
  | succ d ih =>
    intro k i h hk
    obtain ⟨k, rfl⟩ : ∃ m, k = m + 1 := ⟨k - 1, by omega⟩
    have ih := ih k (i + 1) (by omega) (by omega)
    rw [drop_H l i (by omega)]
    simp only [spec_GoodHaves.l0]
    rw [if_pos (by omega), if_pos (by omega), if_pos (by omega), spec_l1In_eq, spec_l1In_eq, wi _ (by omega)]
    simp only [Option.bind_some, upH, okH]
    by_cases ho : 1 ≤ (rd_T56 l i).f0 ∧ (rd_T56 l i).f0 ≤ 1000
    · rw [decide_eq_true ho]
      cases ho2 : decide (1 ≤ (rd_T56 l i).f1 ∧ (rd_T56 l i).f1 ≤ 1000)
      · simp
      · simp only [if_true, Bool.true_and]
        cases i with
        | zero =>
          rw [if_neg (by omega)]
          have hp : (0 : Int) < (rd_T56 l ((0 : Nat) : Int)).f0 := by omega
          rw [ih, show before l 0 = 0 from rfl, decide_eq_true hp]
          simp only [Bool.true_and]
          rfl
        | succ i =>
          rw [if_pos (by omega), w64 (x := ((i + 1 : Nat) : Int) - 1) (by omega) (by omega), show ((i + 1 : Nat) : Int) - 1 = (i : Int) by omega, if_pos (by omega), if_pos (by omega)]
          have hb : before l (i + 1) = (rd_T56 l i).f0 := rfl
          by_cases hlt : before l (i + 1) < (rd_T56 l ((i + 1 : Nat) : Int)).f0
          · rw [if_neg (by omega), ih, decide_eq_true hlt]
            simp only [Bool.true_and]
            rfl
          · rw [if_pos (by omega), decide_eq_false hlt]
            simp
    · rw [decide_eq_false ho]
      simp
theorem spec_goodH (l : List S56) (k : Nat) (hn : l.length ≤ 4611686018427387904) (hk : l.length < k) : spec_GoodHaves.f k l = some (goodH l) := by
  have h := spec_goodH_l l hn l.length k 0 (by omega) hk
  rw [List.drop_zero] at h
  exact h
theorem impl_goodH (l : List S56) (k : Nat) (hn : l.length ≤ 4611686018427387904) (hk : l.length < k) : impl_GoodHaves.f k l = some (goodH l) := by
  rw [goodh_same]
  exact spec_goodH l k hn hk

-- cut7(impl_Have_49)
/-- What a list is cut into: so many a piece (d: rounds enough). -/
def cutR (p : Nat) : Nat → Int → List S56 → List S37
  | 0, lo, l => [⟨lo, 1000, l⟩]
  | d + 1, lo, l => if l.length ≤ p then [⟨lo, 1000, l⟩] else ⟨lo, (rd_T56 l ((p - 1 : Nat) : Int)).f0, l.take p⟩ :: cutR p d ((rd_T56 l ((p - 1 : Nat) : Int)).f0 + 1) (l.drop p)
theorem cutR_short (p d : Nat) (lo : Int) (l : List S56) (h : l.length ≤ p) : cutR p d lo l = [⟨lo, 1000, l⟩] := by
  cases d with
  | zero => rfl
  | succ d => unfold cutR; rw [if_pos h]
theorem cutR_long (p d : Nat) (lo : Int) (l : List S56) (h : ¬ l.length ≤ p) : cutR p (d + 1) lo l = ⟨lo, (rd_T56 l ((p - 1 : Nat) : Int)).f0, l.take p⟩ :: cutR p d ((rd_T56 l ((p - 1 : Nat) : Int)).f0 + 1) (l.drop p) := by
  rw [cutR, if_neg h]
theorem rd56_in (l : List S56) (hok : ∀ x ∈ l, 1 ≤ x.f0 ∧ x.f0 ≤ 1000) (i : Nat) (h : i < l.length) : 1 ≤ (rd_T56 l (i : Int)).f0 ∧ (rd_T56 l (i : Int)).f0 ≤ 1000 := by
  rw [rd_T56_at l i h]
  exact hok _ (List.getElem_mem _)
theorem impl_cut_l (p : Nat) (hp : 1 ≤ p ∧ p ≤ 30) (d : Nat) : ∀ (l : List S56) (lo : Int) (out : List S37) (k : Nat), (∀ x ∈ l, 1 ≤ x.f0 ∧ x.f0 ≤ 1000) → l.length ≤ d → out.length + d ≤ 1000 → d < k → impl_cut.l0 k l p out lo = some (out ++ cutR p d lo l) := by
  induction d with
  | zero =>
    intro l lo out k hok hd ho hk
    obtain ⟨k, rfl⟩ : ∃ m, k = m + 1 := ⟨k - 1, by omega⟩
    obtain rfl : l = [] := List.eq_nil_of_length_eq_zero (by omega)
    have e : mn (p : Int) ((([] : List S56).length : Nat) : Int) = 0 := by simp only [mn, List.length_nil]; split <;> omega
    simp only [impl_cut.l0]
    rw [e, if_pos (by omega), if_pos (by simp)]
    simp only [Int.toNat_zero, List.take_nil, List.drop_nil]
    unfold impl_Have_49.f
    rw [if_pos (by simp)]
    simp only [Option.bind_some, List.length_nil]
    rw [if_pos (by simp), if_pos (by omega)]
    rfl
  | succ d ih =>
    intro l lo out k hok hd ho hk
    obtain ⟨k, rfl⟩ : ∃ m, k = m + 1 := ⟨k - 1, by omega⟩
    by_cases hl : l.length ≤ p
    · have e : mn (p : Int) (l.length : Int) = (l.length : Int) := by simp only [mn]; split <;> omega
      rw [cutR_short p _ lo l hl]
      simp only [impl_cut.l0]
      rw [e, if_pos (by omega), if_pos (by omega), Int.toNat_natCast, List.take_length, List.drop_length]
      unfold impl_Have_49.f
      rw [if_pos (by omega)]
      simp only [Option.bind_some, List.length_nil]
      rw [if_pos (by simp), if_pos (by omega)]
    · have e : mn (p : Int) (l.length : Int) = (p : Int) := by simp only [mn]; split <;> omega
      have ht : (l.take p).length = p := by rw [List.length_take]; omega
      have hdl : (l.drop p).length = l.length - p := List.length_drop
      have er : rd_T56 (l.take p) ((p - 1 : Nat) : Int) = rd_T56 l ((p - 1 : Nat) : Int) := by
        rw [rd_T56_at _ _ (by omega), rd_T56_at l _ (by omega), List.getElem_take]
      have hr := rd56_in l hok (p - 1) (by omega)
      have hw : wrap64 ((p : Int) - 1) = ((p - 1 : Nat) : Int) := by rw [w64 (by omega) (by omega)]; omega
      simp only [impl_cut.l0]
      rw [e, if_pos (by omega), if_pos (by omega), Int.toNat_natCast]
      unfold impl_Have_49.f
      rw [if_pos (by omega)]
      simp only [Option.bind_some]
      rw [if_neg (by omega), hw, if_pos (by omega), if_pos (by omega), if_pos (by omega), er, w64 (by omega) (by omega)]
      rw [ih (l.drop p) _ _ k (fun x hx => hok x (List.mem_of_mem_drop hx)) (by omega) (by rw [List.length_append, List.length_singleton]; omega) (by omega)]
      rw [cutR_long p d lo l hl, List.append_assoc]
      rfl
theorem impl_cut_f (p : Nat) (hp : 1 ≤ p ∧ p ≤ 30) (l : List S56) (k : Nat) (hok : ∀ x ∈ l, 1 ≤ x.f0 ∧ x.f0 ≤ 1000) (hl : l.length ≤ 30) (hk : 30 < k) : impl_cut.f k l p = some (cutR p 30 1 l) := by
  have h := impl_cut_l p hp 30 l 1 [] k hok hl (by simp) hk
  rw [List.nil_append] at h
  exact h
theorem least_eq (a b : Int) : spec_l1Least.f a b = some (if a < b then a else b) := by
  unfold spec_l1Least.f
  split <;> rfl
theorem spec_cut_l (p : Nat) (hp : 1 ≤ p ∧ p ≤ 30) (l : List S56) (hok : ∀ x ∈ l, 1 ≤ x.f0 ∧ x.f0 ≤ 1000) (hn : l.length ≤ 30) (d : Nat) : ∀ (i : Nat) (lo : Int) (out : List S37) (k : Nat), i ≤ l.length → (i < l.length ∨ i = 0) → l.length - i ≤ d → out.length + d ≤ 1000 → d + d + 4 < k → spec_l7Cut.l0 k l p out lo i = some (out ++ cutR p d lo (l.drop i)) := by
  induction d with
  | zero =>
    intro i lo out k hi hor hd ho hk
    obtain ⟨k, rfl⟩ : ∃ m, k = m + 4 := ⟨k - 4, by omega⟩
    obtain rfl : i = 0 := by omega
    obtain rfl : l = [] := List.eq_nil_of_length_eq_zero (by omega)
    simp only [spec_l7Cut.l0, spec_l7Cut.j1, List.length_nil]
    rw [if_neg (by omega)]
    rw [show ((((0 : Nat) : Int) == 0) = true) from rfl]
    rw [if_pos rfl, w64 (by omega) (by omega), least_eq]
    simp only [Option.bind_some]
    rw [if_pos (show ((0 : Nat) : Int) < ((0 : Nat) : Int) + (p : Int) by omega)]
    rw [if_neg (by omega), if_pos (by omega), if_pos (by omega), if_pos (by omega)]
    simp only [List.take_nil, List.drop_nil, List.append_nil, List.length_nil]
    rw [if_pos (by omega), if_pos (by omega), if_neg (by omega)]
    rw [show ((((0 : Nat) : Int) + (p : Int) == 0) = false) from by rw [beq_eq_false_iff_ne]; omega]
    simp [cutR]
  | succ d ih =>
    intro i lo out k hi hor hd ho hk
    obtain ⟨k, rfl⟩ : ∃ m, k = m + 4 := ⟨k - 4, by omega⟩
    have hj : spec_l7Cut.l0 (k + 4) l p out lo i = spec_l7Cut.j1 (k + 3) l p out lo i true := by
      simp only [spec_l7Cut.l0]
      rcases hor with h | rfl
      · rw [if_pos (by omega)]
      · split
        · rfl
        · rfl
    rw [hj]
    simp only [spec_l7Cut.j1, if_true]
    rw [w64 (x := (i : Int) + (p : Int)) (by omega) (by omega), least_eq]
    simp only [Option.bind_some]
    have hdl : (l.drop i).length = l.length - i := List.length_drop
    by_cases hl : l.length ≤ i + p
    · have e : (if (l.length : Int) < (i : Int) + (p : Int) then (l.length : Int) else (i : Int) + (p : Int)) = (l.length : Int) := by split <;> omega
      rw [e, if_neg (by omega), if_pos (by omega), if_pos (by omega), if_pos (by omega), Int.toNat_natCast, Int.toNat_natCast, List.take_length]
      simp only [List.nil_append]
      rw [if_pos (by simp only [List.length_nil]; omega), if_pos (by omega), cutR_short p _ lo _ (by omega)]
      simp only [spec_l7Cut.l0, spec_l7Cut.j1]
      rw [if_neg (by omega), show (((i : Int) + (p : Int) == 0) = false) from by rw [beq_eq_false_iff_ne]; omega]
      simp
    · have e : (if (l.length : Int) < (i : Int) + (p : Int) then (l.length : Int) else (i : Int) + (p : Int)) = ((i + p : Nat) : Int) := by split <;> omega
      have hw : wrap64 (((i + p : Nat) : Int) - 1) = ((i + p - 1 : Nat) : Int) := by rw [w64 (by omega) (by omega)]; omega
      have er : rd_T56 l ((i + p - 1 : Nat) : Int) = rd_T56 (l.drop i) ((p - 1 : Nat) : Int) := by
        rw [rd_T56_at _ _ (by omega), rd_T56_at _ _ (by omega), List.getElem_drop]
        congr 1
        omega
      have hr := rd56_in l hok (i + p - 1) (by omega)
      have et : (l.take (i + p)).drop i = (l.drop i).take p := by rw [List.drop_take]; congr 1; omega
      have htl : ((l.drop i).take p).length = p := by rw [List.length_take]; omega
      rw [e, if_pos (by omega), hw, if_pos (by omega), if_pos (by omega), if_pos (by omega), if_pos (by omega), if_pos (by omega), Int.toNat_natCast, Int.toNat_natCast, et]
      simp only [List.nil_append]
      rw [if_pos (by simp only [List.length_nil]; omega), if_pos (by omega)]
      rw [er] at hr
      rw [er, w64 (by omega) (by omega), show (i : Int) + (p : Int) = ((i + p : Nat) : Int) by omega]
      rw [ih (i + p) _ _ (k + 2) (by omega) (by omega) (by omega) (by rw [List.length_append, List.length_singleton]; omega) (by omega)]
      rw [cutR_long p d lo _ (by omega), List.append_assoc, List.drop_drop]
      rfl
theorem spec_cut_f (p : Nat) (hp : 1 ≤ p ∧ p ≤ 30) (l : List S56) (k : Nat) (hok : ∀ x ∈ l, 1 ≤ x.f0 ∧ x.f0 ≤ 1000) (hl : l.length ≤ 30) (hk : 64 < k) : spec_l7Cut.f k l p = some (cutR p 30 1 l) := by
  have h := spec_cut_l p hp l hok hl 30 0 1 [] k (by omega) (by omega) (by omega) (by simp) (by omega)
  rw [List.nil_append, List.drop_zero] at h
  exact h
theorem cutR_all (p : Nat) : ∀ (d : Nat) (lo : Int) (l : List S56), ∀ x ∈ cutR p d lo l, x.f2.length ≤ l.length
  | 0, lo, l, x, hx => by
    simp only [cutR, List.mem_singleton] at hx
    subst hx
    exact Nat.le_refl _
  | d + 1, lo, l, x, hx => by
    unfold cutR at hx
    split at hx
    · rw [List.mem_singleton] at hx
      subst hx
      exact Nat.le_refl _
    · rcases List.mem_cons.1 hx with rfl | hx
      · simp only [List.length_take]; omega
      · have := cutR_all p d _ _ x hx
        rw [List.length_drop] at this
        omega
theorem cutR_len (p : Nat) : ∀ (d : Nat) (lo : Int) (l : List S56), (cutR p d lo l).length ≤ d + 1
  | 0, lo, l => by simp [cutR]
  | d + 1, lo, l => by
    unfold cutR
    split
    · simp
    · have := cutR_len p d ((rd_T56 l ((p - 1 : Nat) : Int)).f0 + 1) (l.drop p)
      rw [List.length_cons]
      omega
theorem upH_all : ∀ (l : List S56) (p : Int), upH p l = true → ∀ x ∈ l, okH x = true
  | [], _, _, x, hx => by simp at hx
  | y :: r, p, h, x, hx => by
    simp only [upH, Bool.and_eq_true] at h
    rcases List.mem_cons.1 hx with rfl | hx
    · exact h.1
    · exact upH_all r y.f0 h.2.2 x hx
theorem goodH_ok (l : List S56) (h : goodH l = true) : (∀ x ∈ l, (1 ≤ x.f0 ∧ x.f0 ≤ 1000) ∧ 1 ≤ x.f1 ∧ x.f1 ≤ 1000) ∧ l.length ≤ 30 := by
  simp only [goodH, Bool.and_eq_true, decide_eq_true_eq] at h
  refine ⟨fun x hx => ?_, h.2⟩
  have := upH_all l 0 h.1 x hx
  simpa [okH] using this
def cutHR (l : List S56) (n : Int) : List S37 × Bool := if goodH l = true ∧ (1 ≤ n ∧ n ≤ 30) then (cutR n.toNat 30 1 l, true) else ([], false)
theorem spec_CutHaves_f (l : List S56) (n : Int) (k : Nat) (hn : l.length ≤ 4611686018427387904) (hk : l.length + 64 < k) : spec_CutHaves.f k l n = some (cutHR l n) := by
  unfold spec_CutHaves.f cutHR
  rw [spec_goodH l k hn (by omega)]
  simp only [Option.bind_some]
  cases hg : goodH l
  · simp
  · rw [if_pos rfl, spec_l1In_eq]
    simp only [Option.bind_some]
    by_cases h : 1 ≤ n ∧ n ≤ 30
    · obtain ⟨m, rfl⟩ := Int.eq_ofNat_of_zero_le (show 0 ≤ n by omega)
      obtain ⟨h1, h2⟩ := goodH_ok l hg
      rw [decide_eq_true h, if_pos rfl, if_pos ⟨by simp, h⟩, Int.toNat_natCast]
      have e := spec_cut_f m (by omega) l k (fun x hx => (h1 x hx).1) h2 (by omega)
      rw [e]
      rfl
    · rw [decide_eq_false h, if_neg (by simp), if_neg (fun e => h e.2)]
theorem impl_CutHaves_f (l : List S56) (n : Int) (k : Nat) (hn : l.length ≤ 4611686018427387904) (hk : l.length + 64 < k) : impl_CutHaves.f k l n = some (cutHR l n) := by
  unfold impl_CutHaves.f cutHR
  rw [impl_goodH l k hn (by omega)]
  simp only [Option.bind_some]
  cases hg : goodH l
  · simp
  · rw [if_pos rfl, in_same, spec_l1In_eq]
    simp only [Option.bind_some]
    by_cases h : 1 ≤ n ∧ n ≤ 30
    · obtain ⟨m, rfl⟩ := Int.eq_ofNat_of_zero_le (show 0 ≤ n by omega)
      obtain ⟨h1, h2⟩ := goodH_ok l hg
      rw [decide_eq_true h, if_pos rfl, if_pos ⟨by simp, h⟩, Int.toNat_natCast]
      have e := impl_cut_f m (by omega) l k (fun x hx => (h1 x hx).1) h2 (by omega)
      rw [e]
      rfl
    · rw [decide_eq_false h, if_neg (by simp), if_neg (fun e => h e.2)]
theorem cutHR_bd (l : List S56) (n : Int) : (cutHR l n).1.length ≤ 31 ∧ ∀ x ∈ (cutHR l n).1, x.f2.length ≤ 30 := by
  unfold cutHR
  split
  · rename_i h
    obtain ⟨_, h2⟩ := goodH_ok l h.1
    exact ⟨cutR_len _ 30 _ _, fun x hx => Nat.le_trans (cutR_all _ _ _ _ x hx) h2⟩
  · exact ⟨by simp, fun x hx => by simp at hx⟩

-- goodsumi(56)
def inS (lo hi : Int) (l : List S56) : Bool := l.all fun x => decide (lo ≤ x.f0 ∧ x.f0 ≤ hi)
def goodS (lo hi : Int) (l : List S56) : Bool := goodH l && (decide (1 ≤ lo ∧ hi ≤ 1000 ∧ lo ≤ hi) && inS lo hi l)
theorem impl_sum_l (lo hi : Int) (l : List S56) (hn : l.length ≤ 4611686018427387904) (d : Nat) : ∀ (k i : Nat), i + d = l.length → d < k →
    impl_GoodSummary.l0 k l l.length i lo hi l = some (inS lo hi (l.drop i)) := by
  induction d with
  | zero =>
    intro k i h hk
    obtain ⟨k, rfl⟩ : ∃ m, k = m + 1 := ⟨k - 1, by omega⟩
    simp only [impl_GoodSummary.l0]
    rw [if_neg (by omega), List.drop_of_length_le (by omega)]
    rfl
  | succ d ih =>
    intro k i h hk
    obtain ⟨k, rfl⟩ : ∃ m, k = m + 1 := ⟨k - 1, by omega⟩
    have ih := ih k (i + 1) (by omega) (by omega)
    rw [drop_H l i (by omega)]
    simp only [impl_GoodSummary.l0, inS, List.all_cons] at ih ⊢
    rw [if_pos (by omega), if_pos (by omega), if_pos (by omega), wi _ (by omega), in_same, spec_l1In_eq]
    simp only [Option.bind_some]
    cases decide (lo ≤ (rd_T56 l i).f0 ∧ (rd_T56 l i).f0 ≤ hi)
    · simp
    · simp only [if_true, Bool.true_and]
      exact ih
theorem impl_goodS (lo hi : Int) (l : List S56) (k : Nat) (hn : l.length ≤ 4611686018427387904) (hk : l.length + l.length + 1 < k) : impl_GoodSummary.f k lo hi l = some (goodS lo hi l) := by
  obtain ⟨k, rfl⟩ : ∃ m, k = m + 1 := ⟨k - 1, by omega⟩
  unfold impl_GoodSummary.f goodS
  rw [impl_goodH l _ hn (by omega)]
  simp only [Option.bind_some]
  cases goodH l
  · simp [impl_GoodSummary.j0]
  · by_cases h1 : lo < 1
    · simp [impl_GoodSummary.j0, h1, show ¬ 1 ≤ lo by omega]
    · by_cases h2 : hi > 1000
      · simp [impl_GoodSummary.j0, h1, h2, show ¬ hi ≤ 1000 by omega]
      · by_cases h3 : lo > hi
        · simp [impl_GoodSummary.j0, h1, show ¬ (1000 : Int) < hi by omega, h3, show ¬ lo ≤ hi by omega]
        · have h := impl_sum_l lo hi l hn l.length k 0 (by omega) (by omega)
          rw [List.drop_zero] at h
          rw [if_pos rfl, if_neg h1, if_neg h2]
          simp only [impl_GoodSummary.j0]
          rw [decide_eq_false h3, if_neg (by decide), decide_eq_true ⟨by omega, by omega, by omega⟩]
          exact h

-- rdt(37)
theorem rd_T37_at (l : List S37) (i : Nat) (h : i < l.length) : rd_T37 l i = l[i] := by
  simp [rd_T37, List.getD_eq_getElem?_getD, List.getElem?_eq_getElem h]

-- dropi
theorem drop_i (l : List Int) (i : Nat) (h : i < l.length) : l.drop i = rd l i :: l.drop (i + 1) := by
  unfold rd
  rw [Int.toNat_natCast, List.getD_eq_getElem?_getD, List.getElem?_eq_getElem h]
  exact List.drop_eq_getElem_cons h
theorem rd_mem (l : List Int) (i : Nat) (h : i < l.length) : rd l i ∈ l := by
  unfold rd
  rw [Int.toNat_natCast, List.getD_eq_getElem?_getD, List.getElem?_eq_getElem h]
  exact List.getElem_mem h

-- draws
theorem wraps_u64 (n : Int) (h₀ : 0 ≤ n) (h₁ : n < 2 ^ 24) : IntKind.u64.wrap n = n := by
  have h : n < 16777216 := h₁
  rw [IntKind.wrap_u64]
  omega
theorem letterOf (y : Int) : 0 ≤ wrap64 (Go.bits .and .u64 (IntKind.u64.wrap y / 1099511627776) 255) ∧ wrap64 (Go.bits .and .u64 (IntKind.u64.wrap y / 1099511627776) 255) ≤ 255 := by
  have hw := IntKind.wrap_u64 y
  have e : Go.bits .and .u64 (IntKind.u64.wrap y / 1099511627776) 255 = (IntKind.u64.wrap y / 1099511627776) % 256 :=
    bits_mask .u64 24 (by decide) wraps_u64 8 (by decide) _ (by omega) (by show _ < (16777216 : Int); omega)
  rw [e, w64 (by omega) (by omega)]
  omega
/-- The bytes that a drawer reads. -/
def Drawn (l : List Int) : Prop := (∀ x ∈ l, 0 ≤ x ∧ x ≤ 255) ∧ l.length ≤ 1125899906842624
theorem draw_next (l : List Int) (hl : Drawn l) (p st : Int) (h0 : 0 ≤ p) (h1 : p ≤ 1125899906842624) : ∃ v q, spec_l1Cur_next.f l p st = some (v, p + 1, q) ∧ 0 ≤ v ∧ v ≤ 255 := by
  obtain ⟨hl, hn⟩ := hl
  unfold spec_l1Cur_next.f
  rw [w64 (x := p + 1) (by omega) (by omega)]
  by_cases h : p < (l.length : Int)
  · have hm := hl _ (rd_mem l p.toNat (by omega))
    rw [Int.toNat_of_nonneg h0] at hm
    rw [if_pos h, if_pos h0, if_pos (by omega), w64 (x := rd l p) (by omega) (by omega)]
    exact ⟨_, _, rfl, hm⟩
  · rw [if_neg h, if_neg (by omega)]
    exact ⟨_, _, rfl, letterOf _⟩
theorem draw_pick (l : List Int) (hl : Drawn l) (p st n : Int) (h0 : 0 ≤ p) (h1 : p ≤ 1000000000000) (hn : 1 ≤ n) : ∃ v p' q, spec_l1Cur_pick.f l p st n = some (v, p', q) ∧ (0 ≤ v ∧ v < n) ∧ p ≤ p' ∧ p' ≤ p + 2 := by
  unfold spec_l1Cur_pick.f
  by_cases h : n ≤ 1
  · rw [if_pos h]
    exact ⟨_, _, _, rfl, by omega, by omega, by omega⟩
  · obtain ⟨a, q, e, ha⟩ := draw_next l hl p st h0 (by omega)
    rw [if_neg h, e]
    simp only [Option.bind_some]
    by_cases h2 : n > 200
    · obtain ⟨b, q2, e2, hb⟩ := draw_next l hl (p + 1) q (by omega) (by omega)
      rw [if_pos h2, e2]
      simp only [Option.bind_some]
      rw [if_neg (by omega), w64 (x := a * 256) (by omega) (by omega), w64 (by omega) (by omega), tm (by omega)]
      exact ⟨_, _, _, rfl, ⟨Int.emod_nonneg _ (by omega), Int.emod_lt_of_pos _ (by omega)⟩, by omega, by omega⟩
    · rw [if_neg h2, if_neg (by omega), tm (by omega)]
      exact ⟨_, _, _, rfl, ⟨Int.emod_nonneg _ (by omega), Int.emod_lt_of_pos _ (by omega)⟩, by omega, by omega⟩
theorem draw_among (l : List Int) (hl : Drawn l) (p st : Int) (m : List Int) (h0 : 0 ≤ p) (h1 : p ≤ 1000000000000) (hm : 1 ≤ m.length) : ∃ v p' q, spec_l1Cur_among.f l p st m = some (v, p', q) ∧ v ∈ m ∧ p ≤ p' ∧ p' ≤ p + 2 := by
  obtain ⟨v, p', q, e, hv, hp⟩ := draw_pick l hl p st (m.length : Int) h0 h1 (by omega)
  unfold spec_l1Cur_among.f
  rw [e]
  simp only [Option.bind_some]
  rw [if_pos hv.1, if_pos hv.2]
  refine ⟨_, _, _, rfl, ?_, hp⟩
  have := rd_mem m v.toNat (by omega)
  rwa [Int.toNat_of_nonneg hv.1] at this

-- drawone
theorem draw_one (l : List Int) (hl : Drawn l) (p st n : Int) (h0 : 0 ≤ p) (h1 : p ≤ 1000000000000) (hn : 1 ≤ n) : ∃ b p' q, spec_l1Cur_one.f l p st n = some (b, p', q) ∧ p ≤ p' ∧ p' ≤ p + 2 := by
  obtain ⟨v, p', q, e, _, hp⟩ := draw_pick l hl p st n h0 h1 hn
  unfold spec_l1Cur_one.f
  rw [e]
  exact ⟨_, _, _, rfl, hp⟩

-- l7merge
theorem lowN_at (t : Int) : ∀ (l : List S56) (hl : lowN t l < l.length), ¬ (l[lowN t l]).f0 < t
  | [], hl => absurd hl (Nat.not_lt_zero _)
  | y :: r, hl => by
    by_cases h : y.f0 < t
    · have e : lowN t (y :: r) = lowN t r + 1 := by rw [lowN, if_pos h]
      simp only [e, List.getElem_cons_succ] at hl ⊢
      exact lowN_at t r (by simpa using hl)
    · have e : lowN t (y :: r) = 0 := by rw [lowN, if_neg h]
      simp only [e, List.getElem_cons_zero]
      exact h
theorem l7Put_j2f (l : List S56) (hn : l.length ≤ 1000000) (n : Nat) (a b : Int) (k : Nat) (h : n ≤ l.length) :
    spec_l7Put.j2 (k + 1) l (n : Int) (l.take n) false a b = some (l.take n ++ [⟨a, b⟩] ++ l.drop n) := by
  have h1 : (l.take n).length = n := by rw [List.length_take]; omega
  have h2 : (l.drop n).length = l.length - n := List.length_drop
  simp only [spec_l7Put.j2]
  rw [if_neg (by simp), if_pos (by omega)]
  simp only [Option.bind_some]
  rw [if_pos (by omega), if_pos (by omega), Int.toNat_natCast, if_pos (by rw [List.length_append, List.length_singleton]; omega)]
theorem l7Put_j2t (l : List S56) (hn : l.length ≤ 1000000) (n : Nat) (a b : Int) (k : Nat) (h : n < l.length) (he : (l[n]).f0 = a) :
    spec_l7Put.j2 (k + 1) l (n : Int) (l.take n) true a b = some (l.take n ++ [⟨a, mx (l[n]).f1 b⟩] ++ l.drop (n + 1)) := by
  have h1 : (l.take n).length = n := by rw [List.length_take]; omega
  have h2 : (l.drop (n + 1)).length = l.length - (n + 1) := List.length_drop
  simp only [spec_l7Put.j2]
  rw [if_pos trivial, if_pos (by omega), if_pos (by omega), rd_T56_at l n h, w64 (x := (n : Int) + 1) (by omega) (by omega), show (n : Int) + 1 = ((n + 1 : Nat) : Int) by omega, Int.toNat_natCast]
  have hm : mx (l[n]).f1 b = if (l[n]).f1 > b then (l[n]).f1 else b := by
    unfold mx
    split <;> split <;> omega
  rw [hm]
  by_cases hb : (l[n]).f1 > b
  · rw [if_pos hb, if_pos hb, if_pos (by omega)]
    simp only [Option.bind_some]
    rw [if_pos (by omega), if_pos (by omega), if_pos (by rw [List.length_append, List.length_singleton]; omega), he]
  · rw [if_neg hb, if_neg hb, if_pos (by omega)]
    simp only [Option.bind_some]
    rw [if_pos (by omega), if_pos (by omega), if_pos (by rw [List.length_append, List.length_singleton]; omega)]
theorem l7Put_j1 (l : List S56) (hn : l.length ≤ 1000000) (h : S56) (k : Nat) : spec_l7Put.j1 (k + 2) l (lowN h.f0 l : Int) h.f0 h.f1 = some (insH l h) := by
  have hle := lowN_le h.f0 l
  have ht : (l.take (lowN h.f0 l)).length = lowN h.f0 l := by rw [List.length_take]; omega
  simp only [spec_l7Put.j1]
  rw [Option.bind_some, if_pos (by omega), if_pos (by omega), Option.bind_some, Int.toNat_natCast, if_pos (by simp only [List.length_nil, ht]; omega), Option.bind_some, List.nil_append]
  by_cases hl : lowN h.f0 l < l.length
  · rw [if_pos (by omega), rd_T56_at l _ hl]
    by_cases he : (l[lowN h.f0 l]).f0 = h.f0
    · rw [beq_iff_eq.mpr he, l7Put_j2t l hn _ _ _ k hl he, ← insH_found h l hl he, List.set_eq_take_append_cons_drop, if_pos hl, List.append_assoc]
      rfl
    · rw [beq_eq_false_iff_ne.mpr he, l7Put_j2f l hn _ _ _ k hle, ← insH_new h l (fun _ => he)]
  · rw [if_neg (by omega), l7Put_j2f l hn _ _ _ k hle, ← insH_new h l (fun h2 => absurd h2 hl)]
theorem l7Put_l (l : List S56) (hn : l.length ≤ 1000000) (h : S56) (d : Nat) : ∀ (k i : Nat), i + d = lowN h.f0 l → d + 2 < k → spec_l7Put.l0 k l (i : Int) h.f0 h.f1 = some (insH l h) := by
  have hle := lowN_le h.f0 l
  induction d with
  | zero =>
    intro k i hi hk
    obtain ⟨k, rfl⟩ : ∃ m, k = m + 3 := ⟨k - 3, by omega⟩
    obtain rfl : i = lowN h.f0 l := by omega
    have hj := l7Put_j1 l hn h k
    simp only [spec_l7Put.l0]
    by_cases hl : lowN h.f0 l < l.length
    · rw [if_pos (by omega), if_pos (by omega), rd_T56_at l _ hl, if_neg (lowN_at _ l hl)]
      exact hj
    · rw [if_neg (by omega)]
      exact hj
  | succ d ih =>
    intro k i hi hk
    obtain ⟨k, rfl⟩ : ∃ m, k = m + 1 := ⟨k - 1, by omega⟩
    simp only [spec_l7Put.l0]
    rw [if_pos (by omega), if_pos (by omega), rd_T56_at l i (by omega), if_pos (lowN_lt _ l i (by omega) (by omega)), wi _ (by omega)]
    exact ih k (i + 1) (by omega) (by omega)
theorem spec_l7Put_f (l : List S56) (hn : l.length ≤ 1000000) (h : S56) (k : Nat) (hk : l.length + 2 < k) : spec_l7Put.f k l h.f0 h.f1 = some (insH l h) := by
  have hle := lowN_le h.f0 l
  exact l7Put_l l hn h (lowN h.f0 l) k 0 (by omega) (by omega)
theorem spec_l7Merge_l (b : List S56) (hbl : b.length ≤ 1000) (d : Nat) : ∀ (k i : Nat) (out : List S56), i + d = b.length → out.length + d ≤ 1000 → 1010 + d < k → spec_l7Merge.l0 k out b (b.length : Int) i = some ((b.drop i).foldl insH out) := by
  induction d with
  | zero =>
    intro k i out hi ho hk
    obtain ⟨k, rfl⟩ : ∃ m, k = m + 1 := ⟨k - 1, by omega⟩
    simp only [spec_l7Merge.l0]
    rw [if_neg (by omega), List.drop_of_length_le (by omega)]
    rfl
  | succ d ih =>
    intro k i out hi ho hk
    obtain ⟨k, rfl⟩ : ∃ m, k = m + 1 := ⟨k - 1, by omega⟩
    have hl := insH_len (rd_T56 b (i : Int)) out
    simp only [spec_l7Merge.l0]
    rw [if_pos (by omega), if_pos (by omega), if_pos (by omega), spec_l7Put_f out (by omega) _ k (by omega), Option.bind_some, drop_H b i (by omega), List.foldl_cons, wi _ (by omega)]
    exact ih k (i + 1) _ (by omega) (by omega) (by omega)
theorem spec_l7Merge_f (a b : List S56) (k : Nat) (h : a.length + b.length ≤ 1000) (hk : 2020 < k) : spec_l7Merge.f k a b = some (b.foldl insH a) := by
  unfold spec_l7Merge.f
  rw [Option.bind_some, if_pos (by simp only [List.length_nil]; omega), List.nil_append]
  have h2 := spec_l7Merge_l b (by omega) b.length k 0 a (by omega) (by omega) (by omega)
  rw [List.drop_zero] at h2
  exact h2
/-- Good entries and their merge. -/
theorem upH_upF : ∀ (l : List S56) (p : Int), upH p l = true → upF p l = true
  | [], _, _ => rfl
  | x :: r, p, h => by
    simp only [upH, okH, Bool.and_eq_true, decide_eq_true_eq] at h
    rw [upF_cons]
    exact ⟨⟨h.2.1, h.1.1.2⟩, upH_upF r _ h.2.2⟩
theorem upH_ok : ∀ (l : List S56) (p : Int), upH p l = true → ∀ x ∈ l, okH x = true
  | [], _, _, x, hx => by cases hx
  | y :: r, p, h, x, hx => by
    simp only [upH, Bool.and_eq_true, decide_eq_true_eq] at h
    rcases List.mem_cons.1 hx with rfl | hx
    · exact h.1
    · exact upH_ok r _ h.2.2 x hx
theorem okH_iff (x : S56) : okH x = true ↔ (1 ≤ x.f0 ∧ x.f0 ≤ 1000) ∧ (1 ≤ x.f1 ∧ x.f1 ≤ 1000) := by
  simp only [okH, Bool.and_eq_true, decide_eq_true_eq]
theorem upH_cons {p : Int} {x : S56} {r : List S56} : upH p (x :: r) = true ↔ okH x = true ∧ p < x.f0 ∧ upH x.f0 r = true := by
  simp only [upH, Bool.and_eq_true, decide_eq_true_eq]
theorem insH_upH (h : S56) (hh : okH h = true) : ∀ {l : List S56} {p : Int}, upH p l = true → p < h.f0 → upH p (insH l h) = true
  | [], p, _, h1 => by rw [insH, upH_cons]; exact ⟨hh, h1, rfl⟩
  | y :: r, p, hu, h1 => by
    have h3 := upH_cons.1 hu
    unfold insH
    split
    · next hlt => rw [upH_cons]; exact ⟨h3.1, h3.2.1, insH_upH h hh h3.2.2 hlt⟩
    · split
      · next he =>
        rw [upH_cons]
        refine ⟨?_, h3.2.1, h3.2.2⟩
        have hy := (okH_iff _).1 h3.1
        have hx := (okH_iff _).1 hh
        rw [okH_iff]
        refine ⟨hy.1, ?_⟩
        simp only [mx]
        split
        · exact hx.2
        · exact hy.2
      · rw [upH_cons, upH_cons]; exact ⟨hh, h1, h3.1, by omega, h3.2.2⟩
theorem merge_upH : ∀ (b a : List S56), upH 0 a = true → (∀ x ∈ b, okH x = true) → upH 0 (b.foldl insH a) = true
  | [], _, h, _ => h
  | x :: b, a, h, hb => by
    have hx := hb x List.mem_cons_self
    rw [List.foldl_cons]
    exact merge_upH b _ (insH_upH x hx h (by have := (okH_iff _).1 hx; omega)) (fun y hy => hb y (List.mem_cons_of_mem _ hy))
theorem merge_len : ∀ (b a : List S56), (b.foldl insH a).length ≤ a.length + b.length
  | [], _ => Nat.le_refl _
  | x :: b, a => by
    have h1 := insH_len x a
    have h2 := merge_len b (insH a x)
    rw [List.foldl_cons, List.length_cons]
    omega
/-- What merging hands back. -/
def mergeR (a b : List S56) : List S56 × Bool := if goodH a = true ∧ goodH b = true ∧ (b.foldl insH a).length ≤ 30 then (b.foldl insH a, true) else ([], false)
theorem goodH_iff (l : List S56) : goodH l = true ↔ upH 0 l = true ∧ l.length ≤ 30 := by
  simp only [goodH, Bool.and_eq_true, decide_eq_true_eq]
theorem mergeR_len (a b : List S56) : (mergeR a b).1.length ≤ 30 := by
  unfold mergeR
  split
  · next h => exact h.2.2
  · exact Nat.zero_le _
theorem impl_MergeHaves_f (a b : List S56) (k : Nat) (ha : a.length ≤ 4611686018427387904) (hb : b.length ≤ 4611686018427387904) (hk : a.length < k ∧ b.length < k) : impl_MergeHaves.f k a b = some (mergeR a b) := by
  obtain ⟨k, rfl⟩ : ∃ m, k = m + 1 := ⟨k - 1, by omega⟩
  unfold impl_MergeHaves.f mergeR
  rw [impl_goodH a _ ha hk.1, Option.bind_some]
  by_cases h1 : goodH a = true
  · rw [if_pos h1, impl_goodH b _ hb hk.2, Option.bind_some]
    by_cases h2 : goodH b = true
    · have g1 := (goodH_iff a).1 h1
      have g2 := (goodH_iff b).1 h2
      have hbo : ∀ x ∈ b, 0 < x.f0 ∧ x.f0 ≤ 1000 := fun x hx => by have := (okH_iff _).1 (upH_ok b 0 g2.1 x hx); omega
      rw [h2]
      simp only [impl_MergeHaves.j0, Bool.not_true, Bool.false_eq_true, if_false]
      unfold impl_merged.f
      rw [if_pos (show upF 0 a = true ∧ (∀ x ∈ b, 0 < x.f0 ∧ x.f0 ≤ 1000) ∧ a.length + b.length ≤ 1000 from ⟨upH_upF a 0 g1.1, hbo, by omega⟩), Option.bind_some]
      by_cases h3 : (b.foldl insH a).length ≤ 30
      · rw [if_neg (by omega), if_pos (show goodH a = true ∧ True ∧ (b.foldl insH a).length ≤ 30 from ⟨h1, trivial, h3⟩)]
      · rw [if_pos (by omega), if_neg (fun h => h3 h.2.2)]
    · rw [if_neg (show ¬ (goodH a = true ∧ goodH b = true ∧ (b.foldl insH a).length ≤ 30) from fun h => h2 h.2.1)]
      rw [Bool.eq_false_iff.mpr h2]
      simp only [impl_MergeHaves.j0, Bool.not_false, if_true]
  · rw [if_neg h1, if_neg (show ¬ (goodH a = true ∧ goodH b = true ∧ (b.foldl insH a).length ≤ 30) from fun h => h1 h.1)]
    simp only [impl_MergeHaves.j0, if_true]
theorem spec_MergeHaves_f (a b : List S56) (k : Nat) (ha : a.length ≤ 4611686018427387904) (hb : b.length ≤ 4611686018427387904) (hk : a.length < k ∧ b.length < k ∧ 2030 < k) : spec_MergeHaves.f k a b = some (mergeR a b) := by
  obtain ⟨k, rfl⟩ : ∃ m, k = m + 1 := ⟨k - 1, by omega⟩
  unfold spec_MergeHaves.f mergeR
  rw [spec_goodH a _ ha hk.1, Option.bind_some]
  by_cases h1 : goodH a = true
  · rw [if_pos h1, spec_goodH b _ hb hk.2.1, Option.bind_some]
    by_cases h2 : goodH b = true
    · have g1 := (goodH_iff a).1 h1
      have g2 := (goodH_iff b).1 h2
      have hl := merge_len b a
      rw [h2]
      simp only [spec_MergeHaves.j0, Bool.not_true, Bool.false_eq_true, if_false]
      rw [spec_l7Merge_f a b k (by omega) (by omega), Option.bind_some, spec_goodH _ k (by omega) (by omega), Option.bind_some]
      have hg : goodH (b.foldl insH a) = decide ((b.foldl insH a).length ≤ 30) := by
        unfold goodH
        rw [merge_upH b a g1.1 (fun x hx => upH_ok b 0 g2.1 x hx), Bool.true_and]
      rw [hg]
      by_cases h3 : (b.foldl insH a).length ≤ 30
      · rw [if_pos (decide_eq_true h3), if_pos (show goodH a = true ∧ True ∧ (b.foldl insH a).length ≤ 30 from ⟨h1, trivial, h3⟩)]
      · rw [if_neg (by rw [decide_eq_false h3]; simp), if_neg (fun h => h3 h.2.2)]
    · rw [if_neg (show ¬ (goodH a = true ∧ goodH b = true ∧ (b.foldl insH a).length ≤ 30) from fun h => h2 h.2.1)]
      rw [Bool.eq_false_iff.mpr h2]
      simp only [spec_MergeHaves.j0, Bool.not_false, if_true]
  · rw [if_neg h1, if_neg (show ¬ (goodH a = true ∧ goodH b = true ∧ (b.foldl insH a).length ≤ 30) from fun h => h1 h.1)]
    simp only [spec_MergeHaves.j0, if_true]

-- drawhaves
theorem draw_haves2 (l : List Int) (hl : Drawn l) (x : List S56) (hx : x.length ≤ 30) (o : Bool) (ho : o = true → 0 < x.length) (p st : Int) (h0 : 0 ≤ p) (h1 : p ≤ 100000) :
    ∃ r p' q, (∀ k, spec_l1Cur_haves.j2 (k + 1) x o l p st = some (r, p', q)) ∧ r.length ≤ 30 ∧ p ≤ p' ∧ p' ≤ p + 4 := by
  cases o
  · refine ⟨x, p, st, fun k => ?_, hx, by omega, by omega⟩
    rw [spec_l1Cur_haves.j2, if_neg (by decide)]
  · obtain ⟨a, p1, q1, e1, _, hp1⟩ := draw_among l hl p st [0, 1, 1001] h0 (by omega) (by simp)
    obtain ⟨b, p2, q2, e2, _, hp2⟩ := draw_among l hl p1 q1 [0, 1000, 1001] (by omega) (by omega) (by simp)
    have hx0 := ho rfl
    refine ⟨x.set (0 : Int).toNat (⟨a, b⟩ : S56), p2, q2, fun k => ?_, by rw [List.length_set]; exact hx, by omega, by omega⟩
    rw [spec_l1Cur_haves.j2, if_pos rfl, e1, Option.bind_some, e2, Option.bind_some, if_pos (by omega)]
theorem draw_haves_l (l : List Int) (hl : Drawn l) (d : Nat) : ∀ (x : List S56) (p st : Int), x.length + d ≤ 30 → 0 ≤ p → p + 10 * d ≤ 50000 →
    ∃ r p' q, (∀ k, d + 40 < k → spec_l1Cur_haves.l0 k x d l p st = some (r, p', q)) ∧ r.length ≤ 30 ∧ p ≤ p' ∧ p' ≤ p + 10 * d + 10 := by
  induction d with
  | zero =>
    intro x p st hx h0 h1
    by_cases hz : (x.length : Int) > 0
    · obtain ⟨o, p1, q1, e1, hp1⟩ := draw_one l hl p st 30 h0 (by omega) (by omega)
      obtain ⟨r, p2, q2, e2, hr, hp2⟩ := draw_haves2 l hl x (by omega) o (fun _ => by omega) p1 q1 (by omega) (by omega)
      refine ⟨r, p2, q2, fun k hk => ?_, hr, by omega, by omega⟩
      obtain ⟨k, rfl⟩ : ∃ m, k = m + 2 := ⟨k - 2, by omega⟩
      rw [show k + 2 = (k + 1) + 1 from rfl, spec_l1Cur_haves.l0, if_neg (by omega), if_pos hz, e1, Option.bind_some]
      exact e2 k
    · obtain ⟨r, p2, q2, e2, hr, hp2⟩ := draw_haves2 l hl x (by omega) false (fun h => absurd h (by decide)) p st (by omega) (by omega)
      refine ⟨r, p2, q2, fun k hk => ?_, hr, by omega, by omega⟩
      obtain ⟨k, rfl⟩ : ∃ m, k = m + 2 := ⟨k - 2, by omega⟩
      rw [show k + 2 = (k + 1) + 1 from rfl, spec_l1Cur_haves.l0, if_neg (by omega), if_neg hz]
      exact e2 k
  | succ d ih =>
    intro x p st hx h0 h1
    obtain ⟨a, p1, q1, e1, ha, hp1⟩ := draw_pick l hl p st 20 h0 (by omega) (by omega)
    obtain ⟨b, p2, q2, e2, hb, hp2⟩ := draw_pick l hl p1 q1 200 (by omega) (by omega) (by omega)
    obtain ⟨c, p3, q3, e3, hc, hp3⟩ := draw_among l hl p2 q2 [1, 1000, wrap64 (1 + a), wrap64 (1 + b)] (by omega) (by omega) (by simp)
    obtain ⟨e, p4, q4, e4, he, hp4⟩ := draw_pick l hl p3 q3 5 (by omega) (by omega) (by omega)
    have hw2 : wrap64 (((d + 1 : Nat) : Int) - 1) = (d : Int) := by rw [w64 (by omega) (by omega)]; omega
    have hl2 := insH_len (⟨c, wrap64 (1 + e)⟩ : S56) x
    obtain ⟨r, p5, q5, e5, hr, hp5⟩ := ih (insH x ⟨c, wrap64 (1 + e)⟩) p4 q4 (by omega) (by omega) (by omega)
    refine ⟨r, p5, q5, fun k hk => ?_, hr, by omega, by omega⟩
    obtain ⟨k, rfl⟩ : ∃ m, k = m + 1 := ⟨k - 1, by omega⟩
    have ep : spec_l7Put.f k x c (wrap64 (1 + e)) = some (insH x ⟨c, wrap64 (1 + e)⟩) := spec_l7Put_f x (by omega) ⟨c, wrap64 (1 + e)⟩ k (by omega)
    rw [spec_l1Cur_haves.l0, if_pos (by omega), e1, Option.bind_some, e2, Option.bind_some]
    dsimp only
    rw [e3, Option.bind_some]
    dsimp only
    rw [e4, Option.bind_some]
    dsimp only
    rw [ep, Option.bind_some, hw2]
    exact e5 k (by omega)
theorem draw_haves (l : List Int) (hl : Drawn l) (p st : Int) (h0 : 0 ≤ p) (h1 : p ≤ 10000) : ∃ (r : List S56) (p' q : Int), (∀ k, 80 < k → spec_l1Cur_haves.f k l p st = some (r, p', q)) ∧ r.length ≤ 30 ∧ 0 ≤ p' ∧ p' ≤ p + 1000 := by
  obtain ⟨n, p1, q1, e1, hn, hp1⟩ := draw_pick l hl p st 9 h0 (by omega) (by omega)
  obtain ⟨o, p2, q2, e2, hp2⟩ := draw_one l hl p1 q1 20 (by omega) (by omega) (by omega)
  cases o
  · obtain ⟨r, p3, q3, e3, hr, hp3⟩ := draw_haves_l l hl n.toNat [] p2 q2 (by simp; omega) (by omega) (by omega)
    have hc : (n.toNat : Int) = n := Int.toNat_of_nonneg (by omega)
    rw [hc] at e3
    refine ⟨r, p3, q3, fun k hk => ?_, hr, by omega, by omega⟩
    obtain ⟨k, rfl⟩ : ∃ m, k = m + 1 := ⟨k - 1, by omega⟩
    unfold spec_l1Cur_haves.f
    rw [e1, Option.bind_some, e2, Option.bind_some]
    dsimp only
    rw [if_neg (by decide), spec_l1Cur_haves.j0]
    exact e3 k (by omega)
  · obtain ⟨r, p3, q3, e3, hr, hp3⟩ := draw_haves_l l hl 30 [] p2 q2 (by simp) (by omega) (by omega)
    refine ⟨r, p3, q3, fun k hk => ?_, hr, by omega, by omega⟩
    obtain ⟨k, rfl⟩ : ∃ m, k = m + 1 := ⟨k - 1, by omega⟩
    unfold spec_l1Cur_haves.f
    rw [e1, Option.bind_some, e2, Option.bind_some]
    dsimp only
    rw [if_pos rfl, spec_l1Cur_haves.j0]
    exact e3 k (by omega)
theorem draw_cut (l : List Int) (hl : Drawn l) : ∃ r m, (∀ k, 80 < k → spec_DrawCutHaves.f k l = some (r, m)) ∧ r.length ≤ 30 := by
  obtain ⟨r, p1, q1, e1, hr, hp1⟩ := draw_haves l hl 0 0 (by omega) (by omega)
  obtain ⟨m, p2, q2, e2, hm, hp2⟩ := draw_among l hl p1 q1 [0, 1, 2, 3, 30, 31] (by omega) (by omega) (by simp)
  refine ⟨r, m, fun k hk => ?_, hr⟩
  unfold spec_DrawCutHaves.f
  rw [e1 k hk, Option.bind_some]
  dsimp only
  rw [e2, Option.bind_some]
theorem draw_merge (l : List Int) (hl : Drawn l) : ∃ a b, (∀ k, 80 < k → spec_DrawMergeHaves.f k l = some (a, b)) ∧ a.length ≤ 30 ∧ b.length ≤ 30 := by
  obtain ⟨r, p1, q1, e1, hr, hp1⟩ := draw_haves l hl 0 0 (by omega) (by omega)
  obtain ⟨s, p2, q2, e2, hs, hp2⟩ := draw_haves l hl p1 q1 (by omega) (by omega)
  refine ⟨r, s, fun k hk => ?_, hr, hs⟩
  unfold spec_DrawMergeHaves.f
  rw [e1 k hk, Option.bind_some]
  dsimp only
  rw [e2 k hk, Option.bind_some]
theorem draw_seqfor (l : List Int) (hl : Drawn l) : ∃ h f, (∀ k, 80 < k → spec_DrawSeqFor.f k l = some (h, f)) ∧ h.length ≤ 30 := by
  obtain ⟨r, p1, q1, e1, hr, hp1⟩ := draw_haves l hl 0 0 (by omega) (by omega)
  have hj : ∀ (o : Bool) (p st : Int), 0 ≤ p → p ≤ 100000 → (o = true → 0 < r.length) → ∃ f, ∀ k, spec_DrawSeqFor.j0 (k + 1) r o l p st = some (r, f) := by
    intro o p st h0 h1 ho
    cases o
    · obtain ⟨m, p2, q2, e2, hm, hp2⟩ := draw_among l hl p st [0, 1, 5, 1000, 1001] (by omega) (by omega) (by simp)
      refine ⟨m, fun k => ?_⟩
      rw [spec_DrawSeqFor.j0, if_neg (by decide), e2, Option.bind_some]
    · have hr0 := ho rfl
      obtain ⟨v, p2, q2, e2, hv, hp2⟩ := draw_pick l hl p st (r.length : Int) (by omega) (by omega) (by omega)
      refine ⟨(rd_T56 r v).f0, fun k => ?_⟩
      rw [spec_DrawSeqFor.j0, if_pos rfl, e2, Option.bind_some]
      dsimp only
      rw [if_pos hv.1, if_pos hv.2]
  by_cases hz : (r.length : Int) > 0
  · obtain ⟨o, p2, q2, e2, hp2⟩ := draw_one l hl p1 q1 2 (by omega) (by omega) (by omega)
    obtain ⟨f, ef⟩ := hj o p2 q2 (by omega) (by omega) (fun _ => by omega)
    refine ⟨r, f, fun k hk => ?_, hr⟩
    unfold spec_DrawSeqFor.f
    rw [e1 k hk, Option.bind_some]
    dsimp only
    obtain ⟨k, rfl⟩ : ∃ m, k = m + 1 := ⟨k - 1, by omega⟩
    rw [if_pos hz, e2, Option.bind_some]
    exact ef k
  · obtain ⟨f, ef⟩ := hj false p1 q1 (by omega) (by omega) (fun h => absurd h (by decide))
    refine ⟨r, f, fun k hk => ?_, hr⟩
    unfold spec_DrawSeqFor.f
    rw [e1 k hk, Option.bind_some]
    dsimp only
    obtain ⟨k, rfl⟩ : ∃ m, k = m + 1 := ⟨k - 1, by omega⟩
    rw [if_neg hz]
    exact ef k

-- seqfor(56)
/-- The Seq of a From, or 0. -/
def seqOf (f : Int) : List S56 → Int
  | [] => 0
  | x :: r => if x.f0 = f then x.f1 else seqOf f r
theorem spec_seq_l (f : Int) (l : List S56) (hn : l.length ≤ 4611686018427387904) (d : Nat) : ∀ (k i : Nat), i + d = l.length → d < k → spec_l7Seq.l0 k f l l.length i = some (seqOf f (l.drop i)) := by
  induction d with
  | zero =>
    intro k i h hk
    obtain ⟨k, rfl⟩ : ∃ m, k = m + 1 := ⟨k - 1, by omega⟩
    simp only [spec_l7Seq.l0]
    rw [if_neg (by omega), List.drop_of_length_le (by omega)]
    rfl
  | succ d ih =>
    intro k i h hk
    obtain ⟨k, rfl⟩ : ∃ m, k = m + 1 := ⟨k - 1, by omega⟩
    have ih := ih k (i + 1) (by omega) (by omega)
    rw [drop_H l i (by omega)]
    simp only [spec_l7Seq.l0, seqOf]
    rw [if_pos (by omega), if_pos (by omega), if_pos (by omega), wi _ (by omega)]
    by_cases e : (rd_T56 l i).f0 = f
    · rw [if_pos e, if_pos e]
    · rw [if_neg e, if_neg e, ih]
theorem spec_seq (f : Int) (l : List S56) (k : Nat) (hn : l.length ≤ 4611686018427387904) (hk : l.length < k) : spec_l7Seq.f k l f = some (seqOf f l) := by
  have h := spec_seq_l f l hn l.length k 0 (by omega) hk
  rw [List.drop_zero] at h
  exact h
theorem seq_same : ∀ (k : Nat) (f : Int) (l : List S56) (n i : Int), impl_seqFor.l0 k f l n i = spec_l7Seq.l0 k f l n i
  | 0, _, _, _, _ => rfl
  | k + 1, f, l, n, i => by simp only [impl_seqFor.l0, spec_l7Seq.l0, seq_same k]
theorem impl_seq (f : Int) (l : List S56) (k : Nat) (hn : l.length ≤ 4611686018427387904) (hk : l.length < k) : impl_seqFor.f k l f = some (seqOf f l) := by
  unfold impl_seqFor.f
  rw [seq_same]
  exact spec_seq f l k hn hk
/-- What SeqFor tells. -/
def seqR (f : Int) (l : List S56) : Int × Bool := if goodH l = true ∧ (1 ≤ f ∧ f ≤ 1000) then (seqOf f l, true) else (0, false)
theorem spec_SeqFor_f (f : Int) (l : List S56) (k : Nat) (hn : l.length ≤ 4611686018427387904) (hk : l.length < k) : spec_SeqFor.f k l f = some (seqR f l) := by
  unfold spec_SeqFor.f seqR
  rw [spec_goodH l k hn hk, spec_l1In_eq, spec_seq f l k hn hk]
  cases goodH l
  · simp
  · by_cases h : 1 ≤ f ∧ f ≤ 1000
    · simp [h]
    · simp [h]
theorem impl_SeqFor_f (f : Int) (l : List S56) (k : Nat) (hn : l.length ≤ 4611686018427387904) (hk : l.length < k) : impl_SeqFor.f k l f = some (seqR f l) := by
  unfold impl_SeqFor.f seqR
  rw [impl_goodH l k hn hk, in_same, spec_l1In_eq, impl_seq f l k hn hk]
  cases goodH l
  · simp
  · by_cases h : 1 ≤ f ∧ f ≤ 1000
    · simp [h]
    · simp [h]

-- mergelaw
theorem mx_comm (a b : Int) : mx a b = mx b a := by
  unfold mx
  split <;> split <;> omega
theorem seqOf_low (f : Int) : ∀ (l : List S56) (p : Int), upH p l = true → f ≤ p → seqOf f l = 0
  | [], _, _, _ => rfl
  | x :: r, p, h, hf => by
    have h2 := upH_cons.1 h
    rw [seqOf, if_neg (by omega)]
    exact seqOf_low f r x.f0 h2.2.2 (by omega)
theorem seqOf_pos (f : Int) : ∀ (l : List S56) (p : Int), upH p l = true → 0 ≤ seqOf f l
  | [], _, _ => Int.le_refl _
  | x :: r, p, h => by
    have h2 := upH_cons.1 h
    have h3 := (okH_iff x).1 h2.1
    unfold seqOf
    split
    · omega
    · exact seqOf_pos f r x.f0 h2.2.2
theorem seqOf_ins (h : S56) (hh : 1 ≤ h.f1) (f : Int) : ∀ (l : List S56) (p : Int), upH p l = true → seqOf f (insH l h) = if h.f0 = f then mx (seqOf f l) h.f1 else seqOf f l
  | [], _, _ => by
    simp only [insH, seqOf]
    split
    · show h.f1 = mx 0 h.f1
      unfold mx
      rw [if_pos (by omega)]
    · rfl
  | y :: r, p, hu => by
    have h2 := upH_cons.1 hu
    by_cases c1 : y.f0 < h.f0
    · rw [insH, if_pos c1]
      simp only [seqOf]
      rw [seqOf_ins h hh f r y.f0 h2.2.2]
      by_cases e : y.f0 = f
      · rw [if_pos e, if_neg (show ¬ h.f0 = f by omega), if_pos e]
      · rw [if_neg e, if_neg e]
    · by_cases c2 : y.f0 = h.f0
      · rw [insH, if_neg c1, if_pos c2]
        simp only [seqOf]
        by_cases e : y.f0 = f
        · rw [if_pos e, if_pos (show h.f0 = f by omega), if_pos e]
        · rw [if_neg e, if_neg (show ¬ h.f0 = f by omega), if_neg e]
      · rw [insH, if_neg c1, if_neg c2]
        by_cases e : h.f0 = f
        · rw [seqOf, if_pos e, if_pos e, seqOf_low f (y :: r) h.f0 (by rw [upH_cons]; exact ⟨h2.1, by omega, h2.2.2⟩) (by omega), mx, if_pos (by omega)]
        · rw [seqOf, if_neg e, if_neg e]
theorem seqOf_merge (f : Int) : ∀ (b a : List S56) (q : Int), upH q b = true → 0 ≤ q → upH 0 a = true → seqOf f (b.foldl insH a) = mx (seqOf f a) (seqOf f b)
  | [], a, _, _, _, ha => by
    have := seqOf_pos f a 0 ha
    show seqOf f a = mx (seqOf f a) 0
    unfold mx
    rw [if_neg (by omega)]
  | x :: r, a, q, hb, hq, ha => by
    have h2 := upH_cons.1 hb
    have h3 := (okH_iff x).1 h2.1
    have h4 := seqOf_pos f a 0 ha
    rw [List.foldl_cons, seqOf_merge f r (insH a x) x.f0 h2.2.2 (by omega) (insH_upH x h2.1 ha (by omega)), seqOf_ins x h3.2.1 f a 0 ha]
    by_cases e : x.f0 = f
    · rw [if_pos e, seqOf_low f r x.f0 h2.2.2 (by omega)]
      simp only [seqOf]
      rw [if_pos e]
      simp only [mx]
      split <;> split <;> omega
    · rw [if_neg e]
      simp only [seqOf]
      rw [if_neg e]
theorem upH_ext : ∀ (a b : List S56) (p : Int), upH p a = true → upH p b = true → (∀ f, seqOf f a = seqOf f b) → a = b
  | [], [], _, _, _, _ => rfl
  | [], y :: s, p, _, hb, h => by
    have h3 := (okH_iff y).1 (upH_cons.1 hb).1
    have := h y.f0
    simp only [seqOf, if_true] at this
    omega
  | x :: r, [], p, ha, _, h => by
    have h3 := (okH_iff x).1 (upH_cons.1 ha).1
    have := h x.f0
    simp only [seqOf, if_true] at this
    omega
  | x :: r, y :: s, p, ha, hb, h => by
    have a2 := upH_cons.1 ha
    have b2 := upH_cons.1 hb
    have a3 := (okH_iff x).1 a2.1
    have b3 := (okH_iff y).1 b2.1
    have hx := h x.f0
    have hy := h y.f0
    have e0 : x.f0 = y.f0 := by
      rcases Int.lt_trichotomy x.f0 y.f0 with c | c | c
      · rw [seqOf_low x.f0 (y :: s) x.f0 (by rw [upH_cons]; exact ⟨b2.1, c, b2.2.2⟩) (Int.le_refl _)] at hx
        simp only [seqOf, if_true] at hx
        omega
      · exact c
      · rw [seqOf_low y.f0 (x :: r) y.f0 (by rw [upH_cons]; exact ⟨a2.1, c, a2.2.2⟩) (Int.le_refl _)] at hy
        simp only [seqOf, if_true] at hy
        omega
    simp only [seqOf, if_true] at hx
    rw [if_pos e0.symm] at hx
    have ht : r = s := by
      refine upH_ext r s x.f0 a2.2.2 (by rw [e0]; exact b2.2.2) (fun f => ?_)
      by_cases c : f ≤ x.f0
      · rw [seqOf_low f r x.f0 a2.2.2 c, seqOf_low f s y.f0 b2.2.2 (by omega)]
      · have := h f
        simp only [seqOf] at this
        rw [if_neg (by omega), if_neg (by omega)] at this
        exact this
    obtain ⟨x0, x1⟩ := x
    obtain ⟨y0, y1⟩ := y
    simp only at e0 hx
    rw [e0, hx, ht]
theorem merge_comm (a b : List S56) (ha : upH 0 a = true) (hb : upH 0 b = true) : b.foldl insH a = a.foldl insH b := by
  refine upH_ext _ _ 0 (merge_upH b a ha (upH_ok b 0 hb)) (merge_upH a b hb (upH_ok a 0 ha)) (fun f => ?_)
  rw [seqOf_merge f b a 0 hb (Int.le_refl _) ha, seqOf_merge f a b 0 ha (Int.le_refl _) hb, mx_comm]
theorem seqOf_get : ∀ (l : List S56) (p : Int), upH p l = true → ∀ (i : Nat) (h : i < l.length), seqOf (l[i]).f0 l = (l[i]).f1 ∧ p < (l[i]).f0
  | [], _, _, i, h => absurd h (Nat.not_lt_zero _)
  | x :: r, p, hu, 0, _ => by
    have h2 := upH_cons.1 hu
    simp only [List.getElem_cons_zero, seqOf, if_true, true_and]
    exact h2.2.1
  | x :: r, p, hu, i + 1, h => by
    have h2 := upH_cons.1 hu
    have h3 := seqOf_get r x.f0 h2.2.2 i (by simpa using h)
    simp only [List.getElem_cons_succ, seqOf]
    rw [if_neg (by omega)]
    exact ⟨h3.1, by omega⟩
/-- What both orders of a merge tell. -/
theorem mergeR_true (a b : List S56) (h : (mergeR a b).2 = true) : goodH a = true ∧ goodH b = true ∧ mergeR a b = (b.foldl insH a, true) ∧ mergeR b a = (b.foldl insH a, true) ∧ goodH (b.foldl insH a) = true := by
  by_cases c : goodH a = true ∧ goodH b = true ∧ (b.foldl insH a).length ≤ 30
  · have g1 := (goodH_iff a).1 c.1
    have g2 := (goodH_iff b).1 c.2.1
    have e := merge_comm a b g1.1 g2.1
    refine ⟨c.1, c.2.1, ?_, ?_, ?_⟩
    · unfold mergeR; rw [if_pos c]
    · unfold mergeR; rw [if_pos ⟨c.2.1, c.1, by rw [← e]; exact c.2.2⟩, e]
    · exact (goodH_iff _).2 ⟨merge_upH b a g1.1 (upH_ok b 0 g2.1), c.2.2⟩
  · unfold mergeR at h
    rw [if_neg c] at h
    cases h
theorem sameHv_l (l : List S56) (hn : l.length ≤ 1000000) (d : Nat) : ∀ (k i : Nat), i + d = l.length → d < k → laws_sameHaves.l0 k l l l.length i = some true := by
  induction d with
  | zero =>
    intro k i h hk
    obtain ⟨k, rfl⟩ : ∃ m, k = m + 1 := ⟨k - 1, by omega⟩
    simp only [laws_sameHaves.l0]
    rw [if_neg (by omega)]
  | succ d ih =>
    intro k i h hk
    obtain ⟨k, rfl⟩ : ∃ m, k = m + 1 := ⟨k - 1, by omega⟩
    simp only [laws_sameHaves.l0]
    rw [if_pos (by omega), if_pos (by omega), if_pos (by omega), if_pos (by omega), wi _ (by omega), ih k (i + 1) (by omega) (by omega)]
    simp
theorem sameHv (l : List S56) (k : Nat) (hn : l.length ≤ 1000000) (hk : l.length < k) : laws_sameHaves.f k l l = some true := by
  unfold laws_sameHaves.f
  rw [if_pos rfl]
  exact sameHv_l l hn l.length k 0 (by omega) hk

theorem upH_lower {p q : Int} : ∀ {l : List S56}, upH p l = true → q ≤ p → upH q l = true
  | [], _, _ => rfl
  | x :: r, h, hq => by
    rw [upH_cons] at h ⊢
    exact ⟨h.1, by omega, h.2.2⟩
theorem upH_bd : ∀ (l : List S56) (p : Int), upH p l = true → ∀ x ∈ l, p < x.f0 ∧ x.f0 ≤ 1000
  | [], _, _, x, hx => by cases hx
  | y :: r, p, h, x, hx => by
    have h2 := upH_cons.1 h
    have h3 := (okH_iff y).1 h2.1
    rcases List.mem_cons.1 hx with rfl | hx
    · exact ⟨h2.2.1, h3.1.2⟩
    · have := upH_bd r y.f0 h2.2.2 x hx
      omega
theorem upH_cut : ∀ (l : List S56) (q : Int) (n : Nat) (h : n < l.length), upH q l = true → upH q (l.take (n + 1)) = true ∧ upH (l[n]).f0 (l.drop (n + 1)) = true ∧ (∀ x ∈ l.take (n + 1), q < x.f0 ∧ x.f0 ≤ (l[n]).f0) ∧ (q < (l[n]).f0 ∧ (l[n]).f0 ≤ 1000)
  | [], _, _, h, _ => absurd h (Nat.not_lt_zero _)
  | y :: r, q, 0, _, hu => by
    have h2 := upH_cons.1 hu
    have h3 := (okH_iff y).1 h2.1
    refine ⟨?_, h2.2.2, fun x hx => ?_, h2.2.1, h3.1.2⟩
    · show upH q [y] = true
      rw [upH_cons]
      exact ⟨h2.1, h2.2.1, rfl⟩
    · obtain rfl : x = y := by simpa using hx
      exact ⟨h2.2.1, Int.le_refl _⟩
  | y :: r, q, n + 1, h, hu => by
    have h2 := upH_cons.1 hu
    obtain ⟨a1, a2, a3, a4⟩ := upH_cut r y.f0 n (by simpa using h) h2.2.2
    refine ⟨?_, a2, fun x hx => ?_, ?_⟩
    · rw [List.take_succ_cons, upH_cons]
      exact ⟨h2.1, h2.2.1, a1⟩
    · rw [List.take_succ_cons] at hx
      simp only [List.getElem_cons_succ]
      rcases List.mem_cons.1 hx with e | hx
      · rw [e]
        exact ⟨h2.2.1, by omega⟩
      · have := a3 x hx
        exact ⟨by omega, this.2⟩
    · simp only [List.getElem_cons_succ]
      exact ⟨by omega, a4.2⟩
theorem rd37_at (pre : List S37) (s : S37) (suf : List S37) : rd_T37 (pre ++ s :: suf) (pre.length : Int) = s := by
  rw [rd_T37_at _ _ (by simp)]
  simp
theorem goodS_of (lo hi : Int) (l : List S56) (hu : upH 0 l = true) (hl : l.length ≤ 30) (h : 1 ≤ lo ∧ hi ≤ 1000 ∧ lo ≤ hi) (hb : ∀ x ∈ l, lo ≤ x.f0 ∧ x.f0 ≤ hi) : goodS lo hi l = true := by
  unfold goodS inS
  rw [(goodH_iff l).2 ⟨hu, hl⟩, decide_eq_true h, Bool.true_and, Bool.true_and, List.all_eq_true]
  exact fun x hx => decide_eq_true (hb x hx)
-- the parts of a list
theorem l1_round (p : Nat) (hp : p ≤ 30) (x1 : List Int) (x5 : List S56) (pre : List S37) (lo hi : Int) (t : List S56) (suf : List S37) (acc : List S56) (k : Nat) (hg : goodS lo hi t = true) (ht : t.length ≤ p) (ha : acc.length ≤ 30) (hpre : pre.length ≤ 100) (hhi : 1 ≤ hi ∧ hi ≤ 1000) (hk : 100 < k) :
    laws_FnHaves.l1 (k + 1) x1 x5 p acc lo (pre ++ ⟨lo, hi, t⟩ :: suf) ((pre ++ ⟨lo, hi, t⟩ :: suf).length : Int) pre.length = laws_FnHaves.l1 k x1 x5 p (acc ++ t) (hi + 1) (pre ++ ⟨lo, hi, t⟩ :: suf) ((pre ++ ⟨lo, hi, t⟩ :: suf).length : Int) ((pre.length + 1 : Nat) : Int) := by
  have hl : (pre ++ (⟨lo, hi, t⟩ : S37) :: suf).length = pre.length + (suf.length + 1) := by rw [List.length_append, List.length_cons]
  rw [laws_FnHaves.l1, if_pos (by omega), if_pos (by omega), if_pos (by omega), rd37_at]
  dsimp only
  rw [impl_goodS lo hi t k (by omega) (by omega), Option.bind_some, if_pos hg, if_pos rfl, if_neg (by omega), if_pos (by omega), w64 (x := hi + 1) (by omega) (by omega), w64 (x := (pre.length : Int) + 1) (by omega) (by omega)]
  rfl
theorem l1_end (x1 : List Int) (x5 : List S56) (h5 : x5.length ≤ 30) (p : Int) (c : List S37) (n i : Nat) (hi : i = n) (k : Nat) (hk : 100 < k) : laws_FnHaves.l1 (k + 1) x1 x5 p x5 1001 c n i = laws_FnHaves.j3 k x1 := by
  rw [laws_FnHaves.l1, if_neg (by omega), sameHv x5 k (by omega) (by omega), Option.bind_some, if_pos rfl, if_pos rfl]
theorem l1_last (p : Nat) (hp : p ≤ 30) (x1 : List Int) (x5 : List S56) (h5 : x5.length ≤ 30) (K : Nat) (hK : 200 ≤ K) (hj : ∀ k, K < k → laws_FnHaves.j3 k x1 = some true) (l : List S56) (lo : Int) (pre : List S37) (acc : List S56) (k : Nat)
    (hu : upH (lo - 1) l = true) (hl : l.length ≤ p) (h1 : 1 ≤ lo) (h2 : lo ≤ 1000) (ha : acc ++ l = x5) (hpre : pre.length ≤ 100) (hk : K + 5 < k) :
    laws_FnHaves.l1 k x1 x5 p acc lo (pre ++ [⟨lo, 1000, l⟩]) ((pre ++ [(⟨lo, 1000, l⟩ : S37)]).length : Int) pre.length = some true := by
  obtain ⟨k, rfl⟩ : ∃ m, k = m + 2 := ⟨k - 2, by omega⟩
  have hal : acc.length ≤ 30 := by
    have := congrArg List.length ha
    rw [List.length_append] at this
    omega
  have hg : goodS lo 1000 l = true := goodS_of lo 1000 l (upH_lower hu (by omega)) (by omega) ⟨h1, by omega, h2⟩ (fun x hx => by have := upH_bd l _ hu x hx; omega)
  have hr := l1_round p hp x1 x5 pre lo 1000 l [] acc (k + 1) hg hl hal hpre (by omega) (by omega)
  rw [show k + 2 = k + 1 + 1 from rfl, hr, ha, show (1000 : Int) + 1 = 1001 from rfl]
  have he := l1_end x1 x5 h5 p (pre ++ [⟨lo, 1000, l⟩]) (pre ++ [(⟨lo, 1000, l⟩ : S37)]).length (pre.length + 1) (by simp) k (by omega)
  rw [he]
  exact hj k (by omega)
theorem l1_true (p : Nat) (hp : 1 ≤ p ∧ p ≤ 30) (x1 : List Int) (x5 : List S56) (h5 : x5.length ≤ 30) (K : Nat) (hK : 200 ≤ K) (hj : ∀ k, K < k → laws_FnHaves.j3 k x1 = some true) (d : Nat) : ∀ (l : List S56) (lo : Int) (pre : List S37) (acc : List S56) (k : Nat),
    upH (lo - 1) l = true → l.length ≤ d → 1 ≤ lo → lo ≤ 1000 → acc ++ l = x5 → pre.length + d ≤ 100 → K + d + 5 < k →
    laws_FnHaves.l1 k x1 x5 p acc lo (pre ++ cutR p d lo l) ((pre ++ cutR p d lo l).length : Int) pre.length = some true := by
  induction d with
  | zero =>
    intro l lo pre acc k hu hl h1 h2 ha hpre hk
    rw [cutR_short p 0 lo l (by omega)]
    exact l1_last p hp.2 x1 x5 h5 K hK hj l lo pre acc k hu (by omega) h1 h2 ha (by omega) (by omega)
  | succ d ih =>
    intro l lo pre acc k hu hl h1 h2 ha hpre hk
    by_cases c : l.length ≤ p
    · rw [cutR_short p _ lo l c]
      exact l1_last p hp.2 x1 x5 h5 K hK hj l lo pre acc k hu c h1 h2 ha (by omega) (by omega)
    · obtain ⟨k, rfl⟩ : ∃ m, k = m + 1 := ⟨k - 1, by omega⟩
      have hal := congrArg List.length ha
      rw [List.length_append] at hal
      obtain ⟨q, rfl⟩ : ∃ q, p = q + 1 := ⟨p - 1, by omega⟩
      obtain ⟨a1, a2, a3, a4⟩ := upH_cut l (lo - 1) q (by omega) hu
      have hr : rd_T56 l ((q + 1 - 1 : Nat) : Int) = l[q] := rd_T56_at l q (by omega)
      have htl : (l.take (q + 1)).length = q + 1 := by rw [List.length_take]; omega
      have hdl : (l.drop (q + 1)).length = l.length - (q + 1) := List.length_drop
      rw [cutR_long _ d lo l c, hr]
      generalize l[q] = y at a2 a3 a4
      have hlo : y.f0 + 1 ≤ 1000 := by
        cases hd : l.drop (q + 1) with
        | nil => rw [hd] at hdl; simp at hdl; omega
        | cons z zs =>
          rw [hd] at a2
          have z2 := upH_cons.1 a2
          have z3 := (okH_iff z).1 z2.1
          omega
      have hg : goodS lo y.f0 (l.take (q + 1)) = true := goodS_of lo y.f0 _ (upH_lower a1 (by omega)) (by omega) ⟨h1, by omega, by omega⟩ (fun x hx => by have := a3 x hx; omega)
      rw [l1_round (q + 1) hp.2 x1 x5 pre lo y.f0 (l.take (q + 1)) _ acc k hg (by omega) (by omega) (by omega) (by omega) (by omega)]
      have h := ih (l.drop (q + 1)) (y.f0 + 1) (pre ++ [⟨lo, y.f0, l.take (q + 1)⟩]) (acc ++ l.take (q + 1)) k (by rw [show y.f0 + 1 - 1 = y.f0 by omega]; exact a2) (by omega) (by omega) hlo (by rw [List.append_assoc, List.take_append_drop, ha]) (by rw [List.length_append, List.length_singleton]; omega) (by omega)
      rw [List.append_assoc, List.singleton_append, show (pre ++ [(⟨lo, y.f0, l.take (q + 1)⟩ : S37)]).length = pre.length + 1 by rw [List.length_append, List.length_singleton]] at h
      exact h
theorem l0_true (x1 : List Int) (x5 : List S56) (x6 : Int) (c : List S37) (ok : Bool) (hc : c.length ≤ 31) (hb : ∀ x ∈ c, x.f2.length ≤ 30) (K : Nat) (hK : 200 ≤ K)
    (hend : ∀ k, K < k → (if ok = true then laws_FnHaves.l1 k x1 x5 x6 [] 1 c c.length 0 else laws_FnHaves.j3 k x1) = some true) (d : Nat) : ∀ (k i : Nat), i + d = c.length → K + d + 1 < k → laws_FnHaves.l0 k x1 x5 x6 c ok c c.length i = some true := by
  induction d with
  | zero =>
    intro k i hi hk
    obtain ⟨k, rfl⟩ : ∃ m, k = m + 1 := ⟨k - 1, by omega⟩
    rw [laws_FnHaves.l0, if_neg (by omega)]
    exact hend k (by omega)
  | succ d ih =>
    intro k i hi hk
    obtain ⟨k, rfl⟩ : ∃ m, k = m + 1 := ⟨k - 1, by omega⟩
    have hm := hb (rd_T37 c (i : Int)) (by rw [rd_T37_at c i (by omega)]; exact List.getElem_mem _)
    rw [laws_FnHaves.l0, if_pos (by omega), if_pos (by omega), if_pos (by omega), if_pos (by omega), if_pos rfl, if_pos rfl, sameHv _ k (by omega) (by omega), Option.bind_some, if_pos rfl, wi i (by omega)]
    exact ih k (i + 1) (by omega) (by omega)
-- two lists merged
theorem last_part (m : List Int) (dm : Drawn m) (k : Nat) (hk : 100 < k) : ((spec_DrawSeqFor.f k m).bind fun bt => ((impl_SeqFor.f k bt.1 bt.2).bind fun bu => ((spec_SeqFor.f k bt.1 bt.2).bind fun bv => (if (bu.2 == bv.2) = true then (some (bu.1 == bv.1)) else (none))))) = some true := by
  obtain ⟨h, f, e, hl⟩ := draw_seqfor m dm
  rw [e k (by omega), Option.bind_some]
  dsimp only
  rw [impl_SeqFor_f f h k (by omega) (by omega), Option.bind_some, spec_SeqFor_f f h k (by omega) (by omega), Option.bind_some, if_pos (beq_self_eq_true _), beq_self_eq_true]
theorem seqR_good (f : Int) (l : List S56) (h : goodH l = true) (hf : 1 ≤ f ∧ f ≤ 1000) : seqR f l = (seqOf f l, true) := by
  unfold seqR
  rw [if_pos ⟨h, hf⟩]
theorem l2_true (x1 : List Int) (dm : Drawn x1) (a b m : List S56) (ga : goodH a = true) (gb : goodH b = true) (gm : goodH m = true) (hseq : ∀ f, seqOf f m = mx (seqOf f a) (seqOf f b)) (d : Nat) :
    ∀ (k i : Nat), i + d = m.length → d + 200 < k → laws_FnHaves.l2 k x1 a b m m.length i = some true := by
  have la := ((goodH_iff a).1 ga).2
  have lb := ((goodH_iff b).1 gb).2
  have hm := (goodH_iff m).1 gm
  induction d with
  | zero =>
    intro k i hi hk
    obtain ⟨k, rfl⟩ : ∃ m, k = m + 1 := ⟨k - 1, by omega⟩
    rw [laws_FnHaves.l2, if_neg (by omega)]
    exact last_part x1 dm k (by omega)
  | succ d ih =>
    intro k i hi hk
    obtain ⟨k, rfl⟩ : ∃ m, k = m + 1 := ⟨k - 1, by omega⟩
    have hlt : i < m.length := by omega
    have hx := (okH_iff _).1 (upH_ok m 0 hm.1 m[i] (List.getElem_mem hlt))
    have hg := (seqOf_get m 0 hm.1 i hlt).1
    rw [laws_FnHaves.l2, if_pos (by omega), if_pos (by omega), if_pos (by omega), rd_T56_at m i hlt]
    generalize m[i] = x at hx hg
    have hs := hseq x.f0
    rw [hg] at hs
    rw [impl_SeqFor_f x.f0 a k (by omega) (by omega), Option.bind_some, impl_SeqFor_f x.f0 b k (by omega) (by omega), Option.bind_some, seqR_good x.f0 a ga hx.1, seqR_good x.f0 b gb hx.1]
    dsimp only
    rw [if_pos rfl, if_pos rfl]
    have hn := ih k (i + 1) (by omega) (by omega)
    rw [wi i (by omega), hn]
    unfold mx at hs
    by_cases c : seqOf x.f0 a < seqOf x.f0 b
    · rw [if_pos c] at hs
      rw [if_neg (by omega), if_pos hs, if_neg (by omega), if_neg (by omega)]
    · rw [if_neg c] at hs
      rw [if_pos hs, if_neg (by omega), if_neg (by omega)]
theorem j3_true (m : List Int) (dm : Drawn m) (k : Nat) (hk : 2100 < k) : laws_FnHaves.j3 k m = some true := by
  obtain ⟨k, rfl⟩ : ∃ m, k = m + 3 := ⟨k - 3, by omega⟩
  obtain ⟨a, b, e, ha, hb⟩ := draw_merge m dm
  have hl := mergeR_len a b
  have hl2 := mergeR_len b a
  rw [show k + 3 = k + 2 + 1 from rfl, laws_FnHaves.j3, e (k + 2) (by omega), Option.bind_some]
  dsimp only
  rw [impl_MergeHaves_f a b (k + 2) (by omega) (by omega) (by omega), Option.bind_some, spec_MergeHaves_f a b (k + 2) (by omega) (by omega) (by omega), Option.bind_some, bne_self_eq_false, if_neg (by decide), sameHv _ (k + 2) (by omega) (by omega), Option.bind_some, if_pos rfl, impl_goodH a _ (by omega) (by omega), Option.bind_some, spec_goodH a _ (by omega) (by omega), Option.bind_some, bne_self_eq_false]
  rw [show k + 2 = k + 1 + 1 from rfl, laws_FnHaves.j4, if_neg (by decide)]
  by_cases h : (mergeR a b).2 = true
  · obtain ⟨ga, gb, e1, e2, gm⟩ := mergeR_true a b h
    have g1 := (goodH_iff a).1 ga
    have g2 := (goodH_iff b).1 gb
    rw [e1] at hl ⊢
    dsimp only at hl ⊢
    rw [if_pos rfl, impl_MergeHaves_f b a (k + 1) (by omega) (by omega) (by omega), Option.bind_some, e2]
    dsimp only
    rw [if_pos rfl, sameHv _ (k + 1) (by omega) (by omega), Option.bind_some, laws_FnHaves.j5, if_neg (by decide)]
    have h2 := l2_true m dm a b (b.foldl insH a) ga gb gm (fun f => seqOf_merge f b a 0 g2.1 (Int.le_refl _) g1.1) (b.foldl insH a).length k 0 (by omega) (by omega)
    exact h2
  · rw [if_neg h]
    exact last_part m dm (k + 1) (by omega)
theorem FnHaves : laws_FnHaves.PureS := by
  intro l m ⟨hl, hl2⟩ ⟨hm, hm2⟩
  have u8 (x : Int) (h : (Lit.int .u8 x).wf = true) : 0 ≤ x ∧ x ≤ 255 := by
    simp [Lit.wf, IntKind.min, IntKind.max, IntKind.signed, IntKind.bits] at h
    omega
  have dl : Drawn l := ⟨fun x hx => u8 x (hl2 x hx), by omega⟩
  have dm : Drawn m := ⟨fun x hx => u8 x (hm2 x hx), by omega⟩
  obtain ⟨b, n, e1, hb⟩ := draw_cut l dl
  obtain ⟨Z, hZ⟩ : ∃ Z, Z = 3000 := ⟨_, rfl⟩
  obtain ⟨hc, hcb⟩ := cutHR_bd b n
  refine ⟨Z + 1, ?_⟩
  unfold laws_FnHaves.f
  by_cases h0 : wrap64 ((l.length : Int) + (m.length : Int)) > 1048576
  · rw [if_pos h0]
  rw [if_neg h0, e1 _ (by omega), Option.bind_some]
  dsimp only
  rw [impl_CutHaves_f b n _ (by omega) (by omega), Option.bind_some, spec_CutHaves_f b n _ (by omega) (by omega), Option.bind_some, bne_self_eq_false, if_neg (by decide), bne_self_eq_false, laws_FnHaves.j0, if_neg (by decide)]
  refine l0_true m b n (cutHR b n).1 (cutHR b n).2 hc hcb 2200 (by omega) (fun k hk => ?_) (cutHR b n).1.length Z 0 (by omega) (by omega)
  by_cases h : goodH b = true ∧ (1 ≤ n ∧ n ≤ 30)
  · have e : cutHR b n = (cutR n.toNat 30 1 b, true) := by
      unfold cutHR
      rw [if_pos h]
    rw [e]
    dsimp only
    have hn : (n.toNat : Int) = n := Int.toNat_of_nonneg (by omega)
    have g := (goodH_iff b).1 h.1
    have ht := l1_true n.toNat (by omega) m b hb 2110 (by omega) (fun k hk => j3_true m dm k (by omega)) 30 b 1 [] [] k g.1 g.2 (by omega) (by omega) rfl (by simp) (by omega)
    rw [hn] at ht
    rw [if_pos rfl]
    exact ht
  · have e : cutHR b n = ([], false) := by
      unfold cutHR
      rw [if_neg h]
    rw [e]
    rw [if_neg (by decide)]
    exact j3_true m dm k (by omega)

end Go.Proofs.Ytpcimkpklmemnaa.Pure
