/- FnExactSetRank answers true for each list of bridges, each id and each rank. No condition beyond the row's own bounds. -/
import Derived.Test.YtnemglgbginbdaaSFnExactSetRank
namespace Go.Proofs.Ytnemglgbginbdaa.Pure
open Go.RowKit Go.Proofs.Ytnemglgbginbdaa.PFnExactSetRank Go.Proofs.YtnemglgbginbdaaW.PrintWords Go.Proofs.YtnemglgbginbdaaW.PrintLast
set_option linter.unusedVariables false
set_option linter.unusedSimpArgs false

-- w64
theorem w64 {x : Int} (h0 : -9223372036854775808 ≤ x) (h1 : x ≤ 9223372036854775807) : wrap64 x = x := by
  unfold wrap64
  omega
theorem tm {x y : Int} (h0 : 0 ≤ x) : Int.tmod x y = x % y := Int.tmod_eq_emod_of_nonneg h0
theorem wf64 {x : Int} (h : (Lit.int .i64 x).wf = true) : -9223372036854775808 ≤ x ∧ x ≤ 9223372036854775807 := by
  simp [Lit.wf, IntKind.min, IntKind.max, IntKind.signed, IntKind.bits] at h
  omega

-- helps
theorem set_take {α : Type} (m L : List α) (i : Nat) (hi : i < L.length) (hm : m.length = L.length) (ht : m.take i = L.take i) (v : α) (hv : L[i]? = some v) : (m.set i v).take (i + 1) = L.take (i + 1) := by
  rw [List.take_set, List.take_succ_eq_append_getElem (by omega), List.take_succ_eq_append_getElem hi, ht, List.set_append_right _ _ (by rw [List.length_take]; omega)]
  rw [List.length_take, show i - min i L.length = 0 by omega]
  rw [List.getElem?_eq_getElem hi] at hv
  rw [Option.some.inj hv]
  rfl
/-- From some number of rounds on: one number for a pair. -/
theorem ev_at {α : Type} {g : Nat → Option α} {r : α} (h : Ev g r) : ∃ K, ∀ k, K ≤ k → g k = some r := h
theorem ev_some {α : Type} {g : Nat → Option α} {r : α} (h : ∀ k, g k = some r) : Ev g r := ⟨0, fun k _ => h k⟩
theorem ev_ge {α : Type} {g : Nat → Option α} {r : α} (K : Nat) (h : ∀ k, K ≤ k → g k = some r) : Ev g r := ⟨K, h⟩

-- rdt(46)
theorem rd_T46_at (l : List S46) (i : Nat) (h : i < l.length) : rd_T46 l i = l[i] := by
  simp [rd_T46, List.getD_eq_getElem?_getD, List.getElem?_eq_getElem h]

-- goodb(46)
theorem in_same (a b c : Int) : impl_in.f a b c = spec_l1In.f a b c := rfl
theorem bridge_same (a b : Int) (c : Bool) : impl_isBridge.f a b c = spec_l4Bridge.f a b c := rfl
theorem goodb_l : ∀ (k : Nat) (x0 x5 : List S46) (x6 x7 : Int), impl_GoodBridges.l0 k x0 x5 x6 x7 = spec_GoodBridges.l0 k x0 x5 x6 x7
  | 0, _, _, _, _ => rfl
  | k + 1, x0, x5, x6, x7 => by simp only [impl_GoodBridges.l0, spec_GoodBridges.l0, bridge_same, in_same, goodb_l k]
theorem goodb_same (k : Nat) (l : List S46) : impl_GoodBridges.f k l = spec_GoodBridges.f k l := goodb_l k l l _ _
def okB (x : S46) : Bool := decide ((1 ≤ x.f0 ∧ x.f0 ≤ 1000) ∧ 0 ≤ x.f1 ∧ x.f1 ≤ 127)
theorem okB_eq (x : S46) : spec_l4Bridge.f x.f0 x.f1 x.f2 = some (okB x) := by
  unfold spec_l4Bridge.f spec_l1In.f okB
  by_cases h0 : 1 ≤ x.f0
  · by_cases h1 : x.f0 ≤ 1000
    · by_cases h2 : 0 ≤ x.f1
      · simp [h0, h1, h2]
      · simp [h0, h1, h2]
    · simp [h0, h1]
  · simp [h0]
/-- Bridges with rising Ids behind one. -/
def upB (p : Int) : List S46 → Bool
  | [] => true
  | x :: r => okB x && (decide (p < x.f0) && upB x.f0 r)
def goodB (l : List S46) : Bool := upB 0 l && decide (1 ≤ l.length ∧ l.length ≤ 10)
def before (l : List S46) : Nat → Int
  | 0 => 0
  | i + 1 => (rd_T46 l i).f0
theorem drop_B (l : List S46) (i : Nat) (h : i < l.length) : l.drop i = rd_T46 l i :: l.drop (i + 1) := by
  rw [rd_T46_at l i h]
  exact List.drop_eq_getElem_cons h
theorem wi (i : Nat) (h : i ≤ 4611686018427387904) : wrap64 ((i : Int) + 1) = ((i + 1 : Nat) : Int) := by
  rw [w64 (by omega) (by omega)]
  omega
theorem spec_goodB_l (l : List S46) (hn : l.length ≤ 4611686018427387904) (d : Nat) : ∀ (k i : Nat), i + d = l.length → d < k →
    spec_GoodBridges.l0 k l l l.length i = some (upB (before l i) (l.drop i) && decide (1 ≤ l.length ∧ l.length ≤ 10)) := by
  induction d with
  | zero =>
    intro k i h hk
    obtain ⟨k, rfl⟩ : ∃ m, k = m + 1 := ⟨k - 1, by omega⟩
    simp only [spec_GoodBridges.l0, spec_l1In.f]
    rw [if_neg (by omega), List.drop_of_length_le (by omega)]
    simp only [upB, Bool.true_and]
    by_cases h1 : 1 ≤ l.length
    · rw [if_pos (show (l.length : Int) ≥ 1 by omega)]
      by_cases h2 : l.length ≤ 10
      · rw [decide_eq_true (show (l.length : Int) ≤ 10 by omega), decide_eq_true ⟨h1, h2⟩]
        rfl
      · rw [decide_eq_false (show ¬ (l.length : Int) ≤ 10 by omega), decide_eq_false (fun e => h2 e.2)]
        rfl
    · rw [if_neg (show ¬ (l.length : Int) ≥ 1 by omega), decide_eq_false (fun e => h1 e.1)]
      rfl
  | succ d ih =>
    intro k i h hk
    obtain ⟨k, rfl⟩ : ∃ m, k = m + 1 := ⟨k - 1, by omega⟩
    have ih := ih k (i + 1) (by omega) (by omega)
    rw [drop_B l i (by omega)]
    simp only [spec_GoodBridges.l0]
    rw [if_pos (by omega), if_pos (by omega), if_pos (by omega), okB_eq, wi _ (by omega)]
    simp only [Option.bind_some, upB]
    cases ho : okB (rd_T46 l i)
    · simp
    · simp only [if_true, Bool.true_and]
      cases i with
      | zero =>
        rw [if_neg (by omega)]
        have hp : (0 : Int) < (rd_T46 l 0).f0 := by
          unfold okB at ho
          simp at ho
          omega
        rw [ih, show before l 0 = 0 from rfl]
        simp only [before, Int.natCast_zero, show ((0 : Nat) : Int) = 0 from rfl]
        rw [decide_eq_true hp]
        simp
      | succ i =>
        rw [if_pos (by omega), w64 (x := ((i + 1 : Nat) : Int) - 1) (by omega) (by omega), show ((i + 1 : Nat) : Int) - 1 = (i : Int) by omega, if_pos (by omega), if_pos (by omega)]
        have hb : before l (i + 1) = (rd_T46 l i).f0 := rfl
        by_cases hlt : before l (i + 1) < (rd_T46 l ((i + 1 : Nat) : Int)).f0
        · rw [if_neg (by omega), ih, decide_eq_true hlt]
          simp only [Bool.true_and]
          rfl
        · rw [if_pos (by omega), decide_eq_false hlt]
          simp
theorem spec_goodB (l : List S46) (k : Nat) (hn : l.length ≤ 4611686018427387904) (hk : l.length < k) : spec_GoodBridges.f k l = some (goodB l) := by
  have h := spec_goodB_l l hn l.length k 0 (by omega) hk
  rw [List.drop_zero] at h
  exact h
theorem impl_goodB (l : List S46) (k : Nat) (hn : l.length ≤ 4611686018427387904) (hk : l.length < k) : impl_GoodBridges.f k l = some (goodB l) := by
  rw [goodb_same]
  exact spec_goodB l k hn hk
theorem upB_ok : ∀ (l : List S46) (p : Int), upB p l = true → ∀ x ∈ l, okB x = true ∧ p < x.f0
  | y :: l, p, h, x, hx => by
    simp only [upB, Bool.and_eq_true, decide_eq_true_eq] at h
    rcases List.mem_cons.1 hx with rfl | hx
    · exact ⟨h.1, h.2.1⟩
    · have := upB_ok l _ h.2.2 x hx
      exact ⟨this.1, by omega⟩
theorem goodB_ok (l : List S46) (h : goodB l = true) : (∀ x ∈ l, (1 ≤ x.f0 ∧ x.f0 ≤ 1000) ∧ 0 ≤ x.f1 ∧ x.f1 ≤ 127) ∧ 1 ≤ l.length ∧ l.length ≤ 10 := by
  unfold goodB at h
  simp only [Bool.and_eq_true, decide_eq_true_eq] at h
  refine ⟨fun x hx => ?_, h.2⟩
  have := (upB_ok l 0 h.1 x hx).1
  unfold okB at this
  simpa using this

-- at4(46)
theorem fnd_bd {α : Type} (p : α → Bool) : ∀ (l : List α) (i : Int), fnd p l i = -1 ∨ (i ≤ fnd p l i ∧ fnd p l i < i + l.length)
  | [], _ => .inl rfl
  | x :: l, i => by
    unfold fnd
    by_cases h : p x = true
    · rw [if_pos h, List.length_cons]
      right
      omega
    · rw [if_neg h, List.length_cons]
      have := fnd_bd p l (i + 1)
      omega
theorem spec_at_l (id : Int) (l : List S46) (hn : l.length ≤ 4611686018427387904) (d : Nat) : ∀ (k i : Nat), i + d = l.length → d < k → spec_l4At.l0 k id l l.length i = some (fnd (idB id) (l.drop i) i) := by
  induction d with
  | zero =>
    intro k i h hk
    obtain ⟨k, rfl⟩ : ∃ m, k = m + 1 := ⟨k - 1, by omega⟩
    simp only [spec_l4At.l0]
    rw [if_neg (by omega), List.drop_of_length_le (by omega)]
    rfl
  | succ d ih =>
    intro k i h hk
    obtain ⟨k, rfl⟩ : ∃ m, k = m + 1 := ⟨k - 1, by omega⟩
    simp only [spec_l4At.l0]
    rw [if_pos (by omega), if_pos (by omega), if_pos (by omega), drop_B l i (by omega)]
    unfold fnd
    by_cases e : (rd_T46 l i).f0 = id
    · rw [if_pos e, if_pos (by simpa [idB] using e)]
    · rw [if_neg e, if_neg (by simpa [idB] using e), wi i (by omega), ih k (i + 1) (by omega) (by omega)]
      rfl
theorem spec_at (id : Int) (l : List S46) (k : Nat) (hn : l.length ≤ 4611686018427387904) (hk : l.length < k) : spec_l4At.f k l id = some (fnd (idB id) l 0) := by
  have h := spec_at_l id l hn l.length k 0 (by omega) hk
  rw [List.drop_zero] at h
  exact h
theorem impl_at (id : Int) (l : List S46) (hn : l.length ≤ 4611686018427387904) : impl_bridge.f l id = some (fnd (idB id) l 0) := if_pos hn
theorem at_in (id : Int) (l : List S46) (h : ¬ fnd (idB id) l 0 < 0) : 0 ≤ fnd (idB id) l 0 ∧ fnd (idB id) l 0 < (l.length : Int) := by
  have := fnd_bd (idB id) l 0
  omega

-- inrange(spec_l1In)
theorem spec_l1In_eq (a lo hi : Int) : spec_l1In.f a lo hi = some (decide (lo ≤ a ∧ a ≤ hi)) := by
  unfold spec_l1In.f
  by_cases h : lo ≤ a
  · rw [if_pos (show a ≥ lo from h)]
    simp [h]
  · rw [if_neg (show ¬ a ≥ lo from h)]
    simp [h]

-- rdt(44)
theorem rd_T44_at (l : List S44) (i : Nat) (h : i < l.length) : rd_T44 l i = l[i] := by
  simp [rd_T44, List.getD_eq_getElem?_getD, List.getElem?_eq_getElem h]

-- tos(44;46;laws_toBridgeS;laws_toBridge;⟨x.f0, x.f1, x.f2⟩;5864062014805)
def cv44 (x : S44) : S46 := ⟨x.f0, x.f1, x.f2⟩
theorem laws_toBridgeS_l (l : List S44) (hn : l.length ≤ 4611686018427387904) (d : Nat) : ∀ (k i : Nat) (m : List S46), i + d = l.length → m.length = l.length → m.take i = (l.map cv44).take i → d < k →
    laws_toBridgeS.l0 k l m i = some (l.map cv44) := by
  induction d with
  | zero =>
    intro k i m h hm ht hk
    obtain ⟨k, rfl⟩ : ∃ m, k = m + 1 := ⟨k - 1, by omega⟩
    simp only [laws_toBridgeS.l0]
    rw [if_neg (by omega)]
    rw [List.take_of_length_le (by omega), List.take_of_length_le (by rw [List.length_map]; omega)] at ht
    rw [ht]
  | succ d ih =>
    intro k i m h hm ht hk
    obtain ⟨k, rfl⟩ : ∃ m, k = m + 1 := ⟨k - 1, by omega⟩
    simp only [laws_toBridgeS.l0, laws_toBridge.f, Option.bind_some]
    rw [if_pos (by omega), if_pos (by omega), if_pos (by omega), w64 (by omega) (by omega), show ((i : Int) + 1) = ((i + 1 : Nat) : Int) by omega]
    refine ih k (i + 1) _ (by omega) (by rw [List.length_set]; exact hm) ?_ (by omega)
    rw [Int.toNat_natCast]
    exact set_take _ _ i (by rw [List.length_map]; omega) (by rw [List.length_map]; exact hm) ht _ (by rw [List.getElem?_map, List.getElem?_eq_getElem (by omega), rd_T44_at l i (by omega)]; rfl)
theorem laws_toBridgeS_eq (l : List S44) (k : Nat) (hn : l.length ≤ 5864062014805) (hk : l.length < k) : laws_toBridgeS.f k l = some (l.map cv44) := by
  unfold laws_toBridgeS.f
  rw [if_pos (by omega), if_pos (by omega)]
  exact laws_toBridgeS_l l (by omega) l.length k 0 _ (by omega) (by simp) (by simp) hk

-- eqs(46;laws_eqBridgeS;laws_eqBridge)
theorem laws_eqBridgeS_l (l : List S46) (hn : l.length ≤ 4611686018427387904) (d : Nat) : ∀ (k i : Nat), i + d = l.length → d < k → laws_eqBridgeS.l0 k l l i = some true := by
  induction d with
  | zero =>
    intro k i h hk
    obtain ⟨k, rfl⟩ : ∃ m, k = m + 1 := ⟨k - 1, by omega⟩
    simp only [laws_eqBridgeS.l0]
    rw [if_neg (by omega)]
  | succ d ih =>
    intro k i h hk
    obtain ⟨k, rfl⟩ : ∃ m, k = m + 1 := ⟨k - 1, by omega⟩
    have h1 := ih k (i + 1) (by omega) (by omega)
    simp only [laws_eqBridgeS.l0]
    rw [if_pos (by omega), if_pos (by omega), if_pos (by omega), w64 (by omega) (by omega), show ((i : Int) + 1) = ((i + 1 : Nat) : Int) by omega, h1]
    unfold laws_eqBridge.f
    simp
theorem laws_eqBridgeS_refl (l : List S46) (k : Nat) (hn : l.length ≤ 4611686018427387904) (hk : l.length < k) : laws_eqBridgeS.f k l l = some true := by
  unfold laws_eqBridgeS.f
  rw [if_pos rfl]
  exact laws_eqBridgeS_l l hn l.length k 0 (by omega) hk

-- marks(46;laws_markBridgeS;laws_heldBridgeS;⟨m, m + 1, Int.tmod (m + 1 + 1) 3 == 0⟩;3;m + 3 * (i : Int) + 1 + 1 + 1)
def el46 (m : Int) : S46 := ⟨m, m + 1, Int.tmod (m + 1 + 1) 3 == 0⟩
/-- What a marked list of so many holds. -/
def mk46 (m : Int) (n : Nat) : List S46 := (List.range n).map fun i : Nat => el46 (m + 3 * (i : Int))
theorem mk46_len (m : Int) (n : Nat) : (mk46 m n).length = n := by simp [mk46]
theorem rd_T46_set (l : List S46) (i : Nat) (v : S46) (h : i < l.length) : rd_T46 (l.set (i : Int).toNat v) (i : Int) = v := by
  simp [rd_T46, List.getD_eq_getElem?_getD, h]
theorem set_set46 (l : List S46) (i : Int) (a b : S46) : (l.set i.toNat a).set i.toNat b = l.set i.toNat b := by rw [List.set_set]
theorem laws_markBridgeS_l (m : Int) (n : Nat) (hm : 0 ≤ m ∧ m ≤ 1152921504606846976) (hn : n ≤ 35184372088832) (d : Nat) : ∀ (k i : Nat) (l : List S46), i + d = n → l.length = n → d < k → l.take i = (mk46 m n).take i →
    laws_markBridgeS.l0 k l (m + 3 * (i : Int)) i = some (m + 3 * (n : Int), mk46 m n) := by
  have hw : ∀ x : Int, 0 ≤ x → x ≤ 2305843009213693952 → wrap64 (x + 1) = x + 1 := fun x h0 h1 => w64 (by omega) (by omega)
  induction d with
  | zero =>
    intro k i l h hl hk ht
    obtain ⟨k, rfl⟩ : ∃ m, k = m + 1 := ⟨k - 1, by omega⟩
    simp only [laws_markBridgeS.l0]
    rw [if_neg (by omega)]
    rw [List.take_of_length_le (by omega), List.take_of_length_le (by rw [mk46_len]; omega)] at ht
    rw [ht, show i = n by omega]
  | succ d ih =>
    intro k i l h hl hk ht
    obtain ⟨k, rfl⟩ : ∃ m, k = m + 1 := ⟨k - 1, by omega⟩
    have hi : i < l.length := by omega
    simp only [laws_markBridgeS.l0]
    rw [if_pos (by omega), if_pos (by omega)]
    simp only [Option.bind_some, rd_T46_set l i _ hi, set_set46]
    simp (disch := omega) only [hw]
    have h1 := ih k (i + 1) (l.set (i : Int).toNat (el46 (m + 3 * (i : Int)))) (by omega) (by rw [List.length_set]; exact hl) (by omega) (by
      rw [Int.toNat_natCast]
      exact set_take _ _ i (by rw [mk46_len]; omega) (by rw [mk46_len]; exact hl) ht _ (by simp [mk46, show i < n by omega]))
    rw [show m + 3 * (i : Int) + 1 + 1 + 1 = m + 3 * ((i + 1 : Nat) : Int) by omega, show (i : Int) + 1 = ((i + 1 : Nat) : Int) by omega]
    exact h1
theorem laws_markBridgeS_eq (l : List S46) (m : Int) (k : Nat) (hm : 0 ≤ m ∧ m ≤ 1152921504606846976) (hn : l.length ≤ 35184372088832) (hk : l.length < k) : laws_markBridgeS.f k l m = some (m + 3 * (l.length : Int), mk46 m l.length) := by
  have h := laws_markBridgeS_l m l.length hm hn l.length k 0 l (by omega) rfl hk (by simp)
  simp only [Int.natCast_zero, show ((0 : Nat) : Int) = 0 from rfl, Int.mul_zero, Int.add_zero] at h
  exact h
theorem laws_heldBridgeS_l (m : Int) (n : Nat) (hm : 0 ≤ m ∧ m ≤ 1152921504606846976) (hn : n ≤ 35184372088832) (d : Nat) : ∀ (k i : Nat), i + d = n → d < k →
    laws_heldBridgeS.l0 k (mk46 m n) (m + 3 * (i : Int)) i = some (m + 3 * (n : Int)) := by
  have hw : ∀ x : Int, 0 ≤ x → x ≤ 2305843009213693952 → wrap64 (x + 1) = x + 1 := fun x h0 h1 => w64 (by omega) (by omega)
  induction d with
  | zero =>
    intro k i h hk
    obtain ⟨k, rfl⟩ : ∃ m, k = m + 1 := ⟨k - 1, by omega⟩
    simp only [laws_heldBridgeS.l0]
    rw [if_neg (by rw [mk46_len]; omega), show i = n by omega]
  | succ d ih =>
    intro k i h hk
    obtain ⟨k, rfl⟩ : ∃ m, k = m + 1 := ⟨k - 1, by omega⟩
    have hr : rd_T46 (mk46 m n) i = el46 (m + 3 * (i : Int)) := by
      rw [rd_T46_at _ i (by rw [mk46_len]; omega)]
      simp [mk46]
    simp only [laws_heldBridgeS.l0]
    rw [if_pos (by rw [mk46_len]; omega), if_pos (by omega), hr]
    simp (disch := omega) only [hw]
    have h1 := ih k (i + 1) (by omega) (by omega)
    rw [show m + 3 * (i : Int) + 1 + 1 + 1 = m + 3 * ((i + 1 : Nat) : Int) by omega, show (i : Int) + 1 = ((i + 1 : Nat) : Int) by omega, h1]
    simp [el46]
theorem laws_heldBridgeS_eq (m : Int) (n k : Nat) (hm : 0 ≤ m ∧ m ≤ 1152921504606846976) (hn : n ≤ 35184372088832) (hk : n < k) : laws_heldBridgeS.f k (mk46 m n) m = some (m + 3 * (n : Int)) := by
  have h := laws_heldBridgeS_l m n hm hn n k 0 (by omega) hk
  simp only [Int.natCast_zero, show ((0 : Nat) : Int) = 0 from rfl, Int.mul_zero, Int.add_zero] at h
  exact h

def setR (l : List S46) (id n : Int) : List S46 × Bool :=
  if goodB l = true ∧ ¬ fnd (idB id) l 0 < 0 ∧ (0 ≤ n ∧ n ≤ 127) then (l.set (fnd (idB id) l 0).toNat ⟨(rd_T46 l (fnd (idB id) l 0)).f0, n, (rd_T46 l (fnd (idB id) l 0)).f2⟩, true) else ([], false)
theorem spec_SetRank_f (l : List S46) (id n : Int) (k : Nat) (hn : l.length ≤ 4611686018427) (hk : l.length < k) : spec_SetRank.f k l id n = some (setR l id n) := by
  unfold spec_SetRank.f setR
  rw [spec_at id l k (by omega) hk, spec_goodB l k (by omega) hk]
  simp only [Option.bind_some]
  cases hg : goodB l
  · simp
  · simp only [if_true, true_and]
    by_cases h : fnd (idB id) l 0 < 0
    · rw [if_pos h, if_neg (fun e => e.1 h)]
    · rw [if_neg h, spec_l1In_eq]
      simp only [Option.bind_some]
      obtain ⟨h0, h1⟩ := at_in id l h
      by_cases hr : 0 ≤ n ∧ n ≤ 127
      · rw [decide_eq_true hr, if_pos rfl, if_pos (by simp only [List.length_nil]; omega)]
        simp only [List.nil_append]
        rw [if_pos h0, if_pos h1, if_pos ⟨h, hr⟩]
      · rw [decide_eq_false hr, if_neg (by simp), if_neg (fun e => hr e.2)]
theorem impl_SetRank_f (l : List S46) (id n : Int) (k : Nat) (hn : l.length ≤ 4611686018427) (hk : l.length + 1 < k) : impl_SetRank.f k l id n = some (setR l id n) := by
  obtain ⟨k, rfl⟩ : ∃ m, k = m + 1 := ⟨k - 1, by omega⟩
  unfold impl_SetRank.f setR
  rw [impl_goodB l (k + 1) (by omega) (by omega)]
  simp only [Option.bind_some]
  cases hg : goodB l
  · simp [impl_SetRank.j0]
  · simp only [if_true, true_and]
    rw [impl_at id l (by omega)]
    simp only [Option.bind_some]
    by_cases h : fnd (idB id) l 0 < 0
    · rw [if_pos h, if_neg (fun e => e.1 h)]
      simp [impl_SetRank.j0]
    · rw [if_neg h, in_same, spec_l1In_eq]
      simp only [Option.bind_some]
      obtain ⟨h0, h1⟩ := at_in id l h
      by_cases hr : 0 ≤ n ∧ n ≤ 127
      · rw [decide_eq_true hr, if_pos ⟨h, hr⟩]
        simp only [impl_SetRank.j0, Bool.not_true, Bool.false_eq_true, if_false]
        unfold impl_Bridge_76.f
        rw [if_pos (by omega), impl_at id l (by omega)]
        simp only [Option.bind_some]
        rw [if_pos h0, if_pos h1]
      · rw [decide_eq_false hr, if_neg (fun e => hr e.2)]
        simp [impl_SetRank.j0]
theorem FnExactSetRank : laws_FnExactSetRank.PureS := by
  intro l id n ⟨hn, _⟩ _ _
  obtain ⟨K, hK⟩ : ∃ K, K = l.length + 19 := ⟨_, rfl⟩
  refine ⟨K, ?_⟩
  have hm : (l.map cv44).length = l.length := List.length_map _
  have ht := fun k hk => laws_toBridgeS_eq l k (by omega) hk
  unfold laws_FnExactSetRank.f laws_szBridgeS.f
  rw [w64 (by omega) (by omega)]
  by_cases h0 : 1048576 - (l.length : Int) < 0
  · rw [if_pos h0]
    simp
  · have es := fun k hk => spec_SetRank_f (l.map cv44) id n k (by omega) hk
    have ei := fun k hk => impl_SetRank_f (l.map cv44) id n k (by omega) hk
    obtain ⟨r, hr, hrl⟩ : ∃ r, setR (l.map cv44) id n = r ∧ r.1.length ≤ l.length := by
      refine ⟨_, rfl, ?_⟩
      unfold setR
      split
      · simp only [List.length_set]
        omega
      · simp
    rw [hr] at es ei
    rw [if_neg h0]
    simp only [Option.bind_some]
    rw [if_neg h0, ht K (by omega)]
    simp only [Option.bind_some]
    rw [es K (by omega), ei K (by omega)]
    simp only [Option.bind_some]
    rw [laws_eqBridgeS_refl r.1 K (by omega) (by omega)]
    simp only [Option.bind_some, if_true, bne_self_eq_false]
    obtain ⟨K, rfl⟩ : ∃ m, K = m + 3 := ⟨K - 3, by omega⟩
    simp only [laws_FnExactSetRank.j0, Bool.false_eq_true, if_false]
    rw [ht (K + 2) (by omega)]
    simp only [Option.bind_some]
    rw [laws_eqBridgeS_refl _ (K + 2) (by omega) (by omega)]
    simp only [Option.bind_some, if_true]
    rw [laws_markBridgeS_eq _ 1 (K + 2) (by omega) (by omega) (by omega)]
    simp only [Option.bind_some]
    rw [if_neg (by omega), laws_eqBridgeS_refl r.1 (K + 2) (by omega) (by omega)]
    simp only [Option.bind_some, if_true, bne_self_eq_false]
    simp only [laws_FnExactSetRank.j1, Bool.false_eq_true, if_false]
    rw [laws_markBridgeS_eq r.1 1 (K + 1) (by omega) (by omega) (by omega)]
    simp only [Option.bind_some]
    rw [laws_heldBridgeS_eq 1 _ (K + 1) (by omega) (by omega) (by omega)]
    simp only [Option.bind_some, if_true]
    rw [if_neg (by omega), ht (K + 1) (by omega)]
    simp only [Option.bind_some]
    rw [ei (K + 1) (by omega)]
    simp only [Option.bind_some]
    rw [laws_eqBridgeS_refl r.1 (K + 1) (by omega) (by omega)]
    simp only [Option.bind_some, if_true, bne_self_eq_false]
    simp only [laws_FnExactSetRank.j2, Bool.false_eq_true, if_false]
    rw [laws_heldBridgeS_eq 1 _ K (by omega) (by omega) (by omega)]
    simp only [Option.bind_some, if_true]
    rw [if_neg (by omega)]

end Go.Proofs.Ytnemglgbginbdaa.Pure
