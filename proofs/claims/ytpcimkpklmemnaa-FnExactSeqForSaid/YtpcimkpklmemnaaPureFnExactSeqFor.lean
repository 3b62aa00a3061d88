/- FnExactSeqFor answers true for each list of entries and each From. No condition beyond the row's own bounds. -/
import Derived.Test.YtpcimkpklmemnaaSFnExactSeqFor
namespace Go.Proofs.Ytpcimkpklmemnaa.Pure
open Go.RowKit Go.Proofs.Ytpcimkpklmemnaa.PFnExactSeqFor Go.Proofs.YtpcimkpklmemnaaW.PrintWords Go.Proofs.YtpcimkpklmemnaaW.PrintLast
set_option linter.unusedVariables false
set_option linter.unusedSimpArgs false

-- w64
theorem w64 {x : Int} (h0 : -9223372036854775808 ≤ x) (h1 : x ≤ 9223372036854775807) : wrap64 x = x := by
  unfold wrap64
  omega
theorem tm {x y : Int} (h0 : 0 ≤ x) : Int.tmod x y = x % y := Int.tmod_eq_emod_of_nonneg h0
theorem wf64 {x : Int} (h : (Lit.int .i64 x).wf = true) : -9223372036854775808 ≤ x ∧ x ≤ 9223372036854775807 := by
  simp [Lit.wf, IntKind.min, IntKind.max, IntKind.signed, IntKind.bits] at h
  omega

-- helps
theorem set_take {α : Type} (m L : List α) (i : Nat) (hi : i < L.length) (hm : m.length = L.length) (ht : m.take i = L.take i) (v : α) (hv : L[i]? = some v) : (m.set i v).take (i + 1) = L.take (i + 1) := by
  rw [List.take_set, List.take_succ_eq_append_getElem (by omega), List.take_succ_eq_append_getElem hi, ht, List.set_append_right _ _ (by rw [List.length_take]; omega)]
  rw [List.length_take, show i - min i L.length = 0 by omega]
  rw [List.getElem?_eq_getElem hi] at hv
  rw [Option.some.inj hv]
  rfl
/-- From some number of rounds on: one number for a pair. -/
theorem ev_at {α : Type} {g : Nat → Option α} {r : α} (h : Ev g r) : ∃ K, ∀ k, K ≤ k → g k = some r := h
theorem ev_some {α : Type} {g : Nat → Option α} {r : α} (h : ∀ k, g k = some r) : Ev g r := ⟨0, fun k _ => h k⟩
theorem ev_ge {α : Type} {g : Nat → Option α} {r : α} (K : Nat) (h : ∀ k, K ≤ k → g k = some r) : Ev g r := ⟨K, h⟩

-- rdt(56)
theorem rd_T56_at (l : List S56) (i : Nat) (h : i < l.length) : rd_T56 l i = l[i] := by
  simp [rd_T56, List.getD_eq_getElem?_getD, List.getElem?_eq_getElem h]

-- inrange(spec_l1In)
theorem spec_l1In_eq (a lo hi : Int) : spec_l1In.f a lo hi = some (decide (lo ≤ a ∧ a ≤ hi)) := by
  unfold spec_l1In.f
  by_cases h : lo ≤ a
  · rw [if_pos (show a ≥ lo from h)]
    simp [h]
  · rw [if_neg (show ¬ a ≥ lo from h)]
    simp [h]

-- goodh(56)
theorem in_same (a b c : Int) : impl_in.f a b c = spec_l1In.f a b c := rfl
theorem goodh_l : ∀ (k : Nat) (x0 x5 : List S56) (x6 x7 : Int), impl_GoodHaves.l0 k x0 x5 x6 x7 = spec_GoodHaves.l0 k x0 x5 x6 x7
  | 0, _, _, _, _ => rfl
  | k + 1, x0, x5, x6, x7 => by simp only [impl_GoodHaves.l0, spec_GoodHaves.l0, in_same, goodh_l k]
theorem goodh_same (k : Nat) (l : List S56) : impl_GoodHaves.f k l = spec_GoodHaves.f k l := goodh_l k l l _ _
def okH (x : S56) : Bool := decide (1 ≤ x.f0 ∧ x.f0 ≤ 1000) && decide (1 ≤ x.f1 ∧ x.f1 ≤ 1000)
/-- Entries with rising Froms behind one. -/
def upH (p : Int) : List S56 → Bool
  | [] => true
  | x :: r => okH x && (decide (p < x.f0) && upH x.f0 r)
def goodH (l : List S56) : Bool := upH 0 l && decide (l.length ≤ 30)
def before (l : List S56) : Nat → Int
  | 0 => 0
  | i + 1 => (rd_T56 l i).f0
theorem drop_H (l : List S56) (i : Nat) (h : i < l.length) : l.drop i = rd_T56 l i :: l.drop (i + 1) := by
  rw [rd_T56_at l i h]
  exact List.drop_eq_getElem_cons h
theorem wi (i : Nat) (h : i ≤ 4611686018427387904) : wrap64 ((i : Int) + 1) = ((i + 1 : Nat) : Int) := by
  rw [w64 (by omega) (by omega)]
  omega
theorem spec_goodH_l (l : List S56) (hn : l.length ≤ 4611686018427387904) (d : Nat) : ∀ (k i : Nat), i + d = l.length → d < k →
    spec_GoodHaves.l0 k l l l.length i = some (upH (before l i) (l.drop i) && decide (l.length ≤ 30)) := by
  induction d with
  | zero =>
    intro k i h hk
    obtain ⟨k, rfl⟩ : ∃ m, k = m + 1 := ⟨k - 1, by omega⟩
    simp only [spec_GoodHaves.l0]
    rw [if_neg (by omega), List.drop_of_length_le (by omega)]
    simp only [upH, Bool.true_and]
    by_cases h1 : l.length ≤ 30
    · rw [decide_eq_true h1, decide_eq_true (show (l.length : Int) ≤ 30 by omega)]
    · rw [decide_eq_false h1, decide_eq_false (show ¬ (l.length : Int) ≤ 30 by omega)]
  | succ d ih =>
    intro k i h hk
    obtain ⟨k, rfl⟩ : ∃ m, k = m + 1 := ⟨k - 1, by omega⟩
    have ih := ih k (i + 1) (by omega) (by omega)
    rw [drop_H l i (by omega)]
    simp only [spec_GoodHaves.l0]
    rw [if_pos (by omega), if_pos (by omega), if_pos (by omega), spec_l1In_eq, spec_l1In_eq, wi _ (by omega)]
    simp only [Option.bind_some, upH, okH]
    by_cases ho : 1 ≤ (rd_T56 l i).f0 ∧ (rd_T56 l i).f0 ≤ 1000
    · rw [decide_eq_true ho]
      cases ho2 : decide (1 ≤ (rd_T56 l i).f1 ∧ (rd_T56 l i).f1 ≤ 1000)
      · simp
      · simp only [if_true, Bool.true_and]
        cases i with
        | zero =>
          rw [if_neg (by omega)]
          have hp : (0 : Int) < (rd_T56 l ((0 : Nat) : Int)).f0 := by omega
          rw [ih, show before l 0 = 0 from rfl, decide_eq_true hp]
          simp only [Bool.true_and]
          rfl
        | succ i =>
          rw [if_pos (by omega), w64 (x := ((i + 1 : Nat) : Int) - 1) (by omega) (by omega), show ((i + 1 : Nat) : Int) - 1 = (i : Int) by omega, if_pos (by omega), if_pos (by omega)]
          have hb : before l (i + 1) = (rd_T56 l i).f0 := rfl
          by_cases hlt : before l (i + 1) < (rd_T56 l ((i + 1 : Nat) : Int)).f0
          · rw [if_neg (by omega), ih, decide_eq_true hlt]
            simp only [Bool.true_and]
            rfl
          · rw [if_pos (by omega), decide_eq_false hlt]
            simp
    · rw [decide_eq_false ho]
      simp
theorem spec_goodH (l : List S56) (k : Nat) (hn : l.length ≤ 4611686018427387904) (hk : l.length < k) : spec_GoodHaves.f k l = some (goodH l) := by
  have h := spec_goodH_l l hn l.length k 0 (by omega) hk
  rw [List.drop_zero] at h
  exact h
theorem impl_goodH (l : List S56) (k : Nat) (hn : l.length ≤ 4611686018427387904) (hk : l.length < k) : impl_GoodHaves.f k l = some (goodH l) := by
  rw [goodh_same]
  exact spec_goodH l k hn hk

-- seqfor(56)
/-- The Seq of a From, or 0. -/
def seqOf (f : Int) : List S56 → Int
  | [] => 0
  | x :: r => if x.f0 = f then x.f1 else seqOf f r
theorem spec_seq_l (f : Int) (l : List S56) (hn : l.length ≤ 4611686018427387904) (d : Nat) : ∀ (k i : Nat), i + d = l.length → d < k → spec_l7Seq.l0 k f l l.length i = some (seqOf f (l.drop i)) := by
  induction d with
  | zero =>
    intro k i h hk
    obtain ⟨k, rfl⟩ : ∃ m, k = m + 1 := ⟨k - 1, by omega⟩
    simp only [spec_l7Seq.l0]
    rw [if_neg (by omega), List.drop_of_length_le (by omega)]
    rfl
  | succ d ih =>
    intro k i h hk
    obtain ⟨k, rfl⟩ : ∃ m, k = m + 1 := ⟨k - 1, by omega⟩
    have ih := ih k (i + 1) (by omega) (by omega)
    rw [drop_H l i (by omega)]
    simp only [spec_l7Seq.l0, seqOf]
    rw [if_pos (by omega), if_pos (by omega), if_pos (by omega), wi _ (by omega)]
    by_cases e : (rd_T56 l i).f0 = f
    · rw [if_pos e, if_pos e]
    · rw [if_neg e, if_neg e, ih]
theorem spec_seq (f : Int) (l : List S56) (k : Nat) (hn : l.length ≤ 4611686018427387904) (hk : l.length < k) : spec_l7Seq.f k l f = some (seqOf f l) := by
  have h := spec_seq_l f l hn l.length k 0 (by omega) hk
  rw [List.drop_zero] at h
  exact h
theorem seq_same : ∀ (k : Nat) (f : Int) (l : List S56) (n i : Int), impl_seqFor.l0 k f l n i = spec_l7Seq.l0 k f l n i
  | 0, _, _, _, _ => rfl
  | k + 1, f, l, n, i => by simp only [impl_seqFor.l0, spec_l7Seq.l0, seq_same k]
theorem impl_seq (f : Int) (l : List S56) (k : Nat) (hn : l.length ≤ 4611686018427387904) (hk : l.length < k) : impl_seqFor.f k l f = some (seqOf f l) := by
  unfold impl_seqFor.f
  rw [seq_same]
  exact spec_seq f l k hn hk
/-- What SeqFor tells. -/
def seqR (f : Int) (l : List S56) : Int × Bool := if goodH l = true ∧ (1 ≤ f ∧ f ≤ 1000) then (seqOf f l, true) else (0, false)
theorem spec_SeqFor_f (f : Int) (l : List S56) (k : Nat) (hn : l.length ≤ 4611686018427387904) (hk : l.length < k) : spec_SeqFor.f k l f = some (seqR f l) := by
  unfold spec_SeqFor.f seqR
  rw [spec_goodH l k hn hk, spec_l1In_eq, spec_seq f l k hn hk]
  cases goodH l
  · simp
  · by_cases h : 1 ≤ f ∧ f ≤ 1000
    · simp [h]
    · simp [h]
theorem impl_SeqFor_f (f : Int) (l : List S56) (k : Nat) (hn : l.length ≤ 4611686018427387904) (hk : l.length < k) : impl_SeqFor.f k l f = some (seqR f l) := by
  unfold impl_SeqFor.f seqR
  rw [impl_goodH l k hn hk, in_same, spec_l1In_eq, impl_seq f l k hn hk]
  cases goodH l
  · simp
  · by_cases h : 1 ≤ f ∧ f ≤ 1000
    · simp [h]
    · simp [h]

-- rdt(60)
theorem rd_T60_at (l : List S60) (i : Nat) (h : i < l.length) : rd_T60 l i = l[i] := by
  simp [rd_T60, List.getD_eq_getElem?_getD, List.getElem?_eq_getElem h]

-- tos(60;56;laws_toHaveS;laws_toHave;⟨x.f0, x.f1⟩;8796093022208)
def cv60 (x : S60) : S56 := ⟨x.f0, x.f1⟩
theorem laws_toHaveS_l (l : List S60) (hn : l.length ≤ 4611686018427387904) (d : Nat) : ∀ (k i : Nat) (m : List S56), i + d = l.length → m.length = l.length → m.take i = (l.map cv60).take i → d < k →
    laws_toHaveS.l0 k l m i = some (l.map cv60) := by
  induction d with
  | zero =>
    intro k i m h hm ht hk
    obtain ⟨k, rfl⟩ : ∃ m, k = m + 1 := ⟨k - 1, by omega⟩
    simp only [laws_toHaveS.l0]
    rw [if_neg (by omega)]
    rw [List.take_of_length_le (by omega), List.take_of_length_le (by rw [List.length_map]; omega)] at ht
    rw [ht]
  | succ d ih =>
    intro k i m h hm ht hk
    obtain ⟨k, rfl⟩ : ∃ m, k = m + 1 := ⟨k - 1, by omega⟩
    simp only [laws_toHaveS.l0, laws_toHave.f, Option.bind_some]
    rw [if_pos (by omega), if_pos (by omega), if_pos (by omega), w64 (by omega) (by omega), show ((i : Int) + 1) = ((i + 1 : Nat) : Int) by omega]
    refine ih k (i + 1) _ (by omega) (by rw [List.length_set]; exact hm) ?_ (by omega)
    rw [Int.toNat_natCast]
    exact set_take _ _ i (by rw [List.length_map]; omega) (by rw [List.length_map]; exact hm) ht _ (by rw [List.getElem?_map, List.getElem?_eq_getElem (by omega), rd_T60_at l i (by omega)]; rfl)
theorem laws_toHaveS_eq (l : List S60) (k : Nat) (hn : l.length ≤ 8796093022208) (hk : l.length < k) : laws_toHaveS.f k l = some (l.map cv60) := by
  unfold laws_toHaveS.f
  rw [if_pos (by omega), if_pos (by omega)]
  exact laws_toHaveS_l l (by omega) l.length k 0 _ (by omega) (by simp) (by simp) hk

-- eqs(56;laws_eqHaveS;laws_eqHave)
theorem laws_eqHaveS_l (l : List S56) (hn : l.length ≤ 4611686018427387904) (d : Nat) : ∀ (k i : Nat), i + d = l.length → d < k → laws_eqHaveS.l0 k l l i = some true := by
  induction d with
  | zero =>
    intro k i h hk
    obtain ⟨k, rfl⟩ : ∃ m, k = m + 1 := ⟨k - 1, by omega⟩
    simp only [laws_eqHaveS.l0]
    rw [if_neg (by omega)]
  | succ d ih =>
    intro k i h hk
    obtain ⟨k, rfl⟩ : ∃ m, k = m + 1 := ⟨k - 1, by omega⟩
    have h1 := ih k (i + 1) (by omega) (by omega)
    simp only [laws_eqHaveS.l0]
    rw [if_pos (by omega), if_pos (by omega), if_pos (by omega), w64 (by omega) (by omega), show ((i : Int) + 1) = ((i + 1 : Nat) : Int) by omega, h1]
    unfold laws_eqHave.f
    simp
theorem laws_eqHaveS_refl (l : List S56) (k : Nat) (hn : l.length ≤ 4611686018427387904) (hk : l.length < k) : laws_eqHaveS.f k l l = some true := by
  unfold laws_eqHaveS.f
  rw [if_pos rfl]
  exact laws_eqHaveS_l l hn l.length k 0 (by omega) hk

theorem FnExactSeqFor : laws_FnExactSeqFor.PureS := by
  intro l f ⟨hn, _⟩ _
  refine ⟨l.length + 9, ?_⟩
  have hm : (l.map cv60).length = l.length := List.length_map _
  have ht := fun k => laws_toHaveS_eq l k (by omega)
  unfold laws_FnExactSeqFor.f laws_szHaveS.f
  rw [w64 (by omega) (by omega)]
  by_cases h0 : 1048576 - (l.length : Int) < 0
  · rw [if_pos h0]
    simp
  · rw [if_neg h0]
    simp only [Option.bind_some]
    rw [if_neg h0, ht _ (by omega)]
    simp only [Option.bind_some]
    rw [spec_SeqFor_f _ _ _ (by omega) (by omega), impl_SeqFor_f _ _ _ (by omega) (by omega)]
    simp only [Option.bind_some, bne_self_eq_false, Bool.false_eq_true, if_true]
    simp only [laws_FnExactSeqFor.j0, Bool.false_eq_true, if_false]
    rw [ht _ (by omega)]
    simp only [Option.bind_some]
    rw [laws_eqHaveS_refl _ _ (by omega) (by omega)]
    simp

end Go.Proofs.Ytpcimkpklmemnaa.Pure
