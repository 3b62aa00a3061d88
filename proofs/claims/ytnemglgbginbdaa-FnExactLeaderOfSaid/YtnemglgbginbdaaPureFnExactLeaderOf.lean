/- FnExactLeaderOf answers true for each list of bridges. No condition beyond the row's own bounds. -/
import Derived.Test.YtnemglgbginbdaaSFnExactLeaderOf
namespace Go.Proofs.Ytnemglgbginbdaa.Pure
open Go.RowKit Go.Proofs.Ytnemglgbginbdaa.PFnExactLeaderOf Go.Proofs.YtnemglgbginbdaaW.PrintWords Go.Proofs.YtnemglgbginbdaaW.PrintLast
set_option linter.unusedVariables false
set_option linter.unusedSimpArgs false

-- w64
theorem w64 {x : Int} (h0 : -9223372036854775808 ≤ x) (h1 : x ≤ 9223372036854775807) : wrap64 x = x := by
  unfold wrap64
  omega
theorem tm {x y : Int} (h0 : 0 ≤ x) : Int.tmod x y = x % y := Int.tmod_eq_emod_of_nonneg h0
theorem wf64 {x : Int} (h : (Lit.int .i64 x).wf = true) : -9223372036854775808 ≤ x ∧ x ≤ 9223372036854775807 := by
  simp [Lit.wf, IntKind.min, IntKind.max, IntKind.signed, IntKind.bits] at h
  omega

-- helps
theorem set_take {α : Type} (m L : List α) (i : Nat) (hi : i < L.length) (hm : m.length = L.length) (ht : m.take i = L.take i) (v : α) (hv : L[i]? = some v) : (m.set i v).take (i + 1) = L.take (i + 1) := by
  rw [List.take_set, List.take_succ_eq_append_getElem (by omega), List.take_succ_eq_append_getElem hi, ht, List.set_append_right _ _ (by rw [List.length_take]; omega)]
  rw [List.length_take, show i - min i L.length = 0 by omega]
  rw [List.getElem?_eq_getElem hi] at hv
  rw [Option.some.inj hv]
  rfl
/-- From some number of rounds on: one number for a pair. -/
theorem ev_at {α : Type} {g : Nat → Option α} {r : α} (h : Ev g r) : ∃ K, ∀ k, K ≤ k → g k = some r := h
theorem ev_some {α : Type} {g : Nat → Option α} {r : α} (h : ∀ k, g k = some r) : Ev g r := ⟨0, fun k _ => h k⟩
theorem ev_ge {α : Type} {g : Nat → Option α} {r : α} (K : Nat) (h : ∀ k, K ≤ k → g k = some r) : Ev g r := ⟨K, h⟩

-- rdt(46)
theorem rd_T46_at (l : List S46) (i : Nat) (h : i < l.length) : rd_T46 l i = l[i] := by
  simp [rd_T46, List.getD_eq_getElem?_getD, List.getElem?_eq_getElem h]

-- goodb(46)
theorem in_same (a b c : Int) : impl_in.f a b c = spec_l1In.f a b c := rfl
theorem bridge_same (a b : Int) (c : Bool) : impl_isBridge.f a b c = spec_l4Bridge.f a b c := rfl
theorem goodb_l : ∀ (k : Nat) (x0 x5 : List S46) (x6 x7 : Int), impl_GoodBridges.l0 k x0 x5 x6 x7 = spec_GoodBridges.l0 k x0 x5 x6 x7
  | 0, _, _, _, _ => rfl
  | k + 1, x0, x5, x6, x7 => by simp only [impl_GoodBridges.l0, spec_GoodBridges.l0, bridge_same, in_same, goodb_l k]
theorem goodb_same (k : Nat) (l : List S46) : impl_GoodBridges.f k l = spec_GoodBridges.f k l := goodb_l k l l _ _
def okB (x : S46) : Bool := decide ((1 ≤ x.f0 ∧ x.f0 ≤ 1000) ∧ 0 ≤ x.f1 ∧ x.f1 ≤ 127)
theorem okB_eq (x : S46) : spec_l4Bridge.f x.f0 x.f1 x.f2 = some (okB x) := by
  unfold spec_l4Bridge.f spec_l1In.f okB
  by_cases h0 : 1 ≤ x.f0
  · by_cases h1 : x.f0 ≤ 1000
    · by_cases h2 : 0 ≤ x.f1
      · simp [h0, h1, h2]
      · simp [h0, h1, h2]
    · simp [h0, h1]
  · simp [h0]
/-- Bridges with rising Ids behind one. -/
def upB (p : Int) : List S46 → Bool
  | [] => true
  | x :: r => okB x && (decide (p < x.f0) && upB x.f0 r)
def goodB (l : List S46) : Bool := upB 0 l && decide (1 ≤ l.length ∧ l.length ≤ 10)
def before (l : List S46) : Nat → Int
  | 0 => 0
  | i + 1 => (rd_T46 l i).f0
theorem drop_B (l : List S46) (i : Nat) (h : i < l.length) : l.drop i = rd_T46 l i :: l.drop (i + 1) := by
  rw [rd_T46_at l i h]
  exact List.drop_eq_getElem_cons h
theorem wi (i : Nat) (h : i ≤ 4611686018427387904) : wrap64 ((i : Int) + 1) = ((i + 1 : Nat) : Int) := by
  rw [w64 (by omega) (by omega)]
  omega
theorem spec_goodB_l (l : List S46) (hn : l.length ≤ 4611686018427387904) (d : Nat) : ∀ (k i : Nat), i + d = l.length → d < k →
    spec_GoodBridges.l0 k l l l.length i = some (upB (before l i) (l.drop i) && decide (1 ≤ l.length ∧ l.length ≤ 10)) := by
  induction d with
  | zero =>
    intro k i h hk
    obtain ⟨k, rfl⟩ : ∃ m, k = m + 1 := ⟨k - 1, by omega⟩
    simp only [spec_GoodBridges.l0, spec_l1In.f]
    rw [if_neg (by omega), List.drop_of_length_le (by omega)]
    simp only [upB, Bool.true_and]
    by_cases h1 : 1 ≤ l.length
    · rw [if_pos (show (l.length : Int) ≥ 1 by omega)]
      by_cases h2 : l.length ≤ 10
      · rw [decide_eq_true (show (l.length : Int) ≤ 10 by omega), decide_eq_true ⟨h1, h2⟩]
        rfl
      · rw [decide_eq_false (show ¬ (l.length : Int) ≤ 10 by omega), decide_eq_false (fun e => h2 e.2)]
        rfl
    · rw [if_neg (show ¬ (l.length : Int) ≥ 1 by omega), decide_eq_false (fun e => h1 e.1)]
      rfl
  | succ d ih =>
    intro k i h hk
    obtain ⟨k, rfl⟩ : ∃ m, k = m + 1 := ⟨k - 1, by omega⟩
    have ih := ih k (i + 1) (by omega) (by omega)
    rw [drop_B l i (by omega)]
    simp only [spec_GoodBridges.l0]
    rw [if_pos (by omega), if_pos (by omega), if_pos (by omega), okB_eq, wi _ (by omega)]
    simp only [Option.bind_some, upB]
    cases ho : okB (rd_T46 l i)
    · simp
    · simp only [if_true, Bool.true_and]
      cases i with
      | zero =>
        rw [if_neg (by omega)]
        have hp : (0 : Int) < (rd_T46 l 0).f0 := by
          unfold okB at ho
          simp at ho
          omega
        rw [ih, show before l 0 = 0 from rfl]
        simp only [before, Int.natCast_zero, show ((0 : Nat) : Int) = 0 from rfl]
        rw [decide_eq_true hp]
        simp
      | succ i =>
        rw [if_pos (by omega), w64 (x := ((i + 1 : Nat) : Int) - 1) (by omega) (by omega), show ((i + 1 : Nat) : Int) - 1 = (i : Int) by omega, if_pos (by omega), if_pos (by omega)]
        have hb : before l (i + 1) = (rd_T46 l i).f0 := rfl
        by_cases hlt : before l (i + 1) < (rd_T46 l ((i + 1 : Nat) : Int)).f0
        · rw [if_neg (by omega), ih, decide_eq_true hlt]
          simp only [Bool.true_and]
          rfl
        · rw [if_pos (by omega), decide_eq_false hlt]
          simp
theorem spec_goodB (l : List S46) (k : Nat) (hn : l.length ≤ 4611686018427387904) (hk : l.length < k) : spec_GoodBridges.f k l = some (goodB l) := by
  have h := spec_goodB_l l hn l.length k 0 (by omega) hk
  rw [List.drop_zero] at h
  exact h
theorem impl_goodB (l : List S46) (k : Nat) (hn : l.length ≤ 4611686018427387904) (hk : l.length < k) : impl_GoodBridges.f k l = some (goodB l) := by
  rw [goodb_same]
  exact spec_goodB l k hn hk
theorem upB_ok : ∀ (l : List S46) (p : Int), upB p l = true → ∀ x ∈ l, okB x = true ∧ p < x.f0
  | y :: l, p, h, x, hx => by
    simp only [upB, Bool.and_eq_true, decide_eq_true_eq] at h
    rcases List.mem_cons.1 hx with rfl | hx
    · exact ⟨h.1, h.2.1⟩
    · have := upB_ok l _ h.2.2 x hx
      exact ⟨this.1, by omega⟩
theorem goodB_ok (l : List S46) (h : goodB l = true) : (∀ x ∈ l, (1 ≤ x.f0 ∧ x.f0 ≤ 1000) ∧ 0 ≤ x.f1 ∧ x.f1 ≤ 127) ∧ 1 ≤ l.length ∧ l.length ≤ 10 := by
  unfold goodB at h
  simp only [Bool.and_eq_true, decide_eq_true_eq] at h
  refine ⟨fun x hx => ?_, h.2⟩
  have := (upB_ok l 0 h.1 x hx).1
  unfold okB at this
  simpa using this

-- upfrom
/-- n, n + 1, .., in so many places. -/
def upFrom (m : Int) (n : Nat) : List Int := (List.range n).map fun i : Nat => m + i
theorem upFrom_len (m : Int) (n : Nat) : (upFrom m n).length = n := by simp [upFrom]
theorem rd_nat (l : List Int) (i : Nat) : rd l i = l.getD i 0 := by simp [rd]
theorem rd_upFrom (m : Int) (n i : Nat) (h : i < n) : rd (upFrom m n) i = m + i := by
  simp [rd, upFrom, h]

-- dropi
theorem drop_i (l : List Int) (i : Nat) (h : i < l.length) : l.drop i = rd l i :: l.drop (i + 1) := by
  unfold rd
  rw [Int.toNat_natCast, List.getD_eq_getElem?_getD, List.getElem?_eq_getElem h]
  exact List.drop_eq_getElem_cons h
theorem rd_mem (l : List Int) (i : Nat) (h : i < l.length) : rd l i ∈ l := by
  unfold rd
  rw [Int.toNat_natCast, List.getD_eq_getElem?_getD, List.getElem?_eq_getElem h]
  exact List.getElem_mem h

-- leader(46)
def btB (a b : S46) : Bool := decide (a.f1 > b.f1 ∨ a.f1 = b.f1 ∧ a.f0 > b.f0)
theorem spec_beatsB (a b : S46) : spec_l4Beats.f a.f0 a.f1 a.f2 b.f0 b.f1 b.f2 = some (btB a b) := by
  unfold spec_l4Beats.f btB
  by_cases h : a.f1 > b.f1
  · simp [h]
  · by_cases h2 : a.f1 = b.f1
    · simp [h2]
    · simp [h, h2]
theorem impl_beatsB (a b : S46) : impl_beats.f a.f0 a.f1 a.f2 b.f0 b.f1 b.f2 = some (btB a b) := spec_beatsB a b
/-- The leader of some, behind one that leads till here. -/
def lead : Option S46 → List S46 → Option S46
  | b, [] => b
  | none, x :: r => lead (if x.f2 = true then some x else none) r
  | some b, x :: r => lead (if x.f2 = true ∧ btB x b = true then some x else some b) r
def leadId (o : Option S46) : Int := match o with | none => 0 | some x => x.f0
theorem impl_leader_l (l : List S46) (hn : l.length ≤ 4611686018427387904) (hok : ∀ x ∈ l, 1 ≤ x.f0) (d : Nat) : ∀ (k i : Nat) (b : S46) (o : Option S46), (o = none ∧ b.f0 = 0 ∨ o = some b ∧ 1 ≤ b.f0) → i + d = l.length → d < k →
    impl_leader.l0 k l l.length i b.f0 b.f1 b.f2 = some (leadId (lead o (l.drop i))) := by
  induction d with
  | zero =>
    intro k i b o ho h hk
    obtain ⟨k, rfl⟩ : ∃ m, k = m + 1 := ⟨k - 1, by omega⟩
    simp only [impl_leader.l0]
    rw [if_neg (by omega), List.drop_of_length_le (by omega)]
    rcases ho with ⟨rfl, hb⟩ | ⟨rfl, hb⟩
    · simp [lead, leadId, hb]
    · simp [lead, leadId]
  | succ d ih =>
    intro k i b o ho h hk
    obtain ⟨k, rfl⟩ : ∃ m, k = m + 1 := ⟨k - 1, by omega⟩
    have hx : 1 ≤ (rd_T46 l i).f0 := by
      rw [rd_T46_at l i (by omega)]
      exact hok _ (List.getElem_mem _)
    rw [drop_B l i (by omega)]
    simp only [impl_leader.l0]
    rw [if_pos (by omega), if_pos (by omega), if_pos (by omega), wi _ (by omega), impl_beatsB]
    have ih1 := ih k (i + 1) (rd_T46 l i) (some (rd_T46 l i)) (Or.inr ⟨rfl, hx⟩) (by omega) (by omega)
    have ih2 := ih k (i + 1) b o ho (by omega) (by omega)
    rcases ho with ⟨rfl, hb⟩ | ⟨rfl, hb⟩
    · simp only [lead]
      cases hu : (rd_T46 l i).f2
      · rw [if_neg (by decide), if_neg (by decide)]
        exact ih2
      · rw [if_pos rfl, if_pos hb, if_pos rfl]
        rw [hu] at ih1
        exact ih1
    · simp only [lead]
      cases hu : (rd_T46 l i).f2
      · rw [if_neg (by decide), if_neg (by simp)]
        exact ih2
      · rw [if_pos rfl, if_neg (by omega)]
        simp only [Option.bind_some]
        cases hbt : btB (rd_T46 l i) b
        · rw [if_neg (by decide), if_neg (by simp)]
          exact ih2
        · rw [if_pos rfl, if_pos (by simp)]
          rw [hu] at ih1
          exact ih1
theorem impl_leaderB (l : List S46) (k : Nat) (hn : l.length ≤ 4611686018427387904) (hok : ∀ x ∈ l, 1 ≤ x.f0) (hk : l.length < k) : impl_leader.f k l = some (leadId (lead none l)) := by
  have h := impl_leader_l l hn hok l.length k 0 ⟨0, 0, false⟩ none (Or.inl ⟨rfl, rfl⟩) (by omega) hk
  rw [List.drop_zero] at h
  exact h
/-- The leader of those at some places. -/
theorem spec_leader_l (l : List S46) (at_ : List Int) (hn : at_.length ≤ 4611686018427387904) (hin : ∀ x ∈ at_, 0 ≤ x ∧ x < l.length) (d : Nat) : ∀ (k i : Nat) (b : Int) (o : Option S46), (o = none ∧ b < 0 ∨ (0 ≤ b ∧ b < l.length) ∧ o = some (rd_T46 l b)) → i + d = at_.length → d < k →
    spec_l4Leader.l0 k l b at_ at_.length i = some (leadId (lead o ((at_.drop i).map fun x => rd_T46 l x))) := by
  induction d with
  | zero =>
    intro k i b o ho h hk
    obtain ⟨k, rfl⟩ : ∃ m, k = m + 1 := ⟨k - 1, by omega⟩
    simp only [spec_l4Leader.l0]
    rw [if_neg (by omega), List.drop_of_length_le (by omega)]
    rcases ho with ⟨rfl, hb⟩ | ⟨hb, rfl⟩
    · rw [if_pos hb]
      rfl
    · rw [if_neg (by omega), if_pos hb.1, if_pos hb.2]
      rfl
  | succ d ih =>
    intro k i b o ho h hk
    obtain ⟨k, rfl⟩ : ∃ m, k = m + 1 := ⟨k - 1, by omega⟩
    have hx := hin _ (rd_mem at_ i (by omega))
    rw [drop_i at_ i (by omega), List.map_cons]
    simp only [spec_l4Leader.l0]
    rw [if_pos (by omega), if_pos (by omega), if_pos (by omega), if_pos hx.1, if_pos hx.2, wi _ (by omega)]
    have ih1 := ih k (i + 1) (rd at_ i) (some (rd_T46 l (rd at_ i))) (Or.inr ⟨hx, rfl⟩) (by omega) (by omega)
    have ih2 := ih k (i + 1) b o ho (by omega) (by omega)
    rcases ho with ⟨rfl, hb⟩ | ⟨hb, rfl⟩
    · simp only [lead]
      cases hu : (rd_T46 l (rd at_ i)).f2
      · rw [if_neg (by decide), if_neg (by decide)]
        exact ih2
      · rw [if_pos rfl, if_pos hb, if_pos rfl]
        exact ih1
    · simp only [lead]
      cases hu : (rd_T46 l (rd at_ i)).f2
      · rw [if_neg (by decide), if_neg (by simp)]
        exact ih2
      · rw [if_pos rfl, if_neg (by omega), if_pos hb.1, if_pos hb.2]
        have e := spec_beatsB (rd_T46 l (rd at_ i)) (rd_T46 l b)
        rw [hu] at e
        rw [e]
        simp only [Option.bind_some]
        cases hbt : btB (rd_T46 l (rd at_ i)) (rd_T46 l b)
        · rw [if_neg (by decide), if_neg (by simp)]
          exact ih2
        · rw [if_pos rfl, if_pos (by simp)]
          exact ih1
theorem spec_leaderB (l : List S46) (at_ : List Int) (k : Nat) (hn : at_.length ≤ 4611686018427387904) (hin : ∀ x ∈ at_, 0 ≤ x ∧ x < l.length) (hk : at_.length < k) :
    spec_l4Leader.f k l at_ = some (leadId (lead none (at_.map fun x => rd_T46 l x))) := by
  have h := spec_leader_l l at_ hn hin at_.length k 0 (-1) none (Or.inl ⟨rfl, by omega⟩) (by omega) hk
  rw [List.drop_zero] at h
  exact h

-- places(46)
theorem spec_places_l (n : Nat) (hn : n ≤ 10) (d : Nat) : ∀ (k i : Nat), i + d = n → d < k → spec_l4Places.l0 k (upFrom 0 i) n i = some (upFrom 0 n) := by
  induction d with
  | zero =>
    intro k i h hk
    obtain ⟨k, rfl⟩ : ∃ m, k = m + 1 := ⟨k - 1, by omega⟩
    simp only [spec_l4Places.l0]
    rw [if_neg (by omega)]
    obtain rfl : i = n := by omega
    rfl
  | succ d ih =>
    intro k i h hk
    obtain ⟨k, rfl⟩ : ∃ m, k = m + 1 := ⟨k - 1, by omega⟩
    simp only [spec_l4Places.l0]
    rw [if_pos (by omega), if_pos (by rw [upFrom_len]; omega), wi _ (by omega)]
    have e : upFrom 0 i ++ [(i : Int)] = upFrom 0 (i + 1) := by simp [upFrom, List.range_succ]
    rw [e]
    exact ih k (i + 1) (by omega) (by omega)
theorem spec_places (l : List S46) (k : Nat) (hn : l.length ≤ 10) (hk : l.length < k) : spec_l4Places.f k l = some (upFrom 0 l.length) := by
  have h := spec_places_l l.length hn l.length k 0 (by omega) hk
  exact h
theorem map_places (l : List S46) : (upFrom 0 l.length).map (fun x => rd_T46 l x) = l := by
  apply List.ext_getElem
  · simp [upFrom]
  · intro i h1 h2
    simp only [upFrom, List.getElem_map, List.getElem_range, Int.zero_add]
    exact rd_T46_at l i h2
theorem spec_lead_all (l : List S46) (k : Nat) (hn : l.length ≤ 10) (hk : l.length < k) : spec_l4Leader.f k l (upFrom 0 l.length) = some (leadId (lead none l)) := by
  have h := spec_leaderB l (upFrom 0 l.length) k (by rw [upFrom_len]; omega) (by
    intro x hx
    simp only [upFrom, List.mem_map, List.mem_range] at hx
    obtain ⟨i, hi, rfl⟩ := hx
    omega) (by rw [upFrom_len]; omega)
  rw [map_places] at h
  exact h
theorem lead_pos : ∀ (l : List S46) (o : Option S46), (∀ x ∈ l, 1 ≤ x.f0) → (∀ x, o = some x → 1 ≤ x.f0) → 0 ≤ leadId (lead o l)
  | [], none, _, _ => by simp [lead, leadId]
  | [], some b, _, ho => by have := ho b rfl; simp [lead, leadId]; omega
  | x :: l, none, h, _ => by
    simp only [lead]
    refine lead_pos l _ (fun y hy => h y (List.mem_cons_of_mem _ hy)) (fun y hy => ?_)
    split at hy
    · rw [← Option.some.inj hy]
      exact h x List.mem_cons_self
    · cases hy
  | x :: l, some b, h, ho => by
    simp only [lead]
    refine lead_pos l _ (fun y hy => h y (List.mem_cons_of_mem _ hy)) (fun y hy => ?_)
    split at hy
    · rw [← Option.some.inj hy]
      exact h x List.mem_cons_self
    · rw [← Option.some.inj hy]
      exact ho b rfl
/-- What LeaderOf tells. -/
def leaderR (l : List S46) : Int × Bool := if goodB l = true ∧ ¬ leadId (lead none l) = 0 then (leadId (lead none l), true) else (0, false)
theorem spec_LeaderOf_f (l : List S46) (k : Nat) (hn : l.length ≤ 4611686018427387904) (hk : l.length + 1 < k) : spec_LeaderOf.f k l = some (leaderR l) := by
  unfold spec_LeaderOf.f leaderR
  obtain ⟨k, rfl⟩ : ∃ m, k = m + 1 := ⟨k - 1, by omega⟩
  rw [spec_goodB l _ hn (by omega)]
  simp only [Option.bind_some]
  cases hg : goodB l
  · rw [if_neg (by decide), if_neg (by simp)]
    simp [spec_LeaderOf.j0]
  · have h10 := (goodB_ok l hg).2.2
    rw [if_pos rfl, spec_places l _ h10 (by omega)]
    simp only [Option.bind_some]
    rw [spec_lead_all l _ h10 (by omega)]
    simp only [Option.bind_some, spec_LeaderOf.j0]
    by_cases hz : leadId (lead none l) = 0
    · rw [if_pos (by simp [hz]), if_neg (by simp [hz])]
    · rw [if_neg (by simp [hz]), if_pos (by simp [hz]), spec_places l _ h10 (by omega)]
      simp only [Option.bind_some]
      rw [spec_lead_all l _ h10 (by omega)]
      rfl
theorem impl_LeaderOf_f (l : List S46) (k : Nat) (hn : l.length ≤ 4611686018427387904) (hk : l.length + 1 < k) : impl_LeaderOf.f k l = some (leaderR l) := by
  unfold impl_LeaderOf.f leaderR
  rw [impl_goodB l _ hn (by omega)]
  simp only [Option.bind_some]
  cases hg : goodB l
  · rw [if_neg (by decide), if_neg (by simp)]
  · have hok := (goodB_ok l hg).1
    have hp := lead_pos l none (fun x hx => (hok x hx).1.1) (fun x hx => by cases hx)
    rw [if_pos rfl, impl_leaderB l _ hn (fun x hx => (hok x hx).1.1) (by omega)]
    simp only [Option.bind_some]
    by_cases hz : leadId (lead none l) = 0
    · rw [if_neg (by simp [hz]), hz]
      rfl
    · rw [if_pos (by simp [hz]), decide_eq_true (by omega)]

-- eqb
theorem eqB (a b : Int) (c : Bool) : laws_eqBridge.f a b c a b c = some true := by
  unfold laws_eqBridge.f
  simp

-- rdt(44)
theorem rd_T44_at (l : List S44) (i : Nat) (h : i < l.length) : rd_T44 l i = l[i] := by
  simp [rd_T44, List.getD_eq_getElem?_getD, List.getElem?_eq_getElem h]

-- tos(44;46;laws_toBridgeS;laws_toBridge;⟨x.f0, x.f1, x.f2⟩;5864062014805)
def cv44 (x : S44) : S46 := ⟨x.f0, x.f1, x.f2⟩
theorem laws_toBridgeS_l (l : List S44) (hn : l.length ≤ 4611686018427387904) (d : Nat) : ∀ (k i : Nat) (m : List S46), i + d = l.length → m.length = l.length → m.take i = (l.map cv44).take i → d < k →
    laws_toBridgeS.l0 k l m i = some (l.map cv44) := by
  induction d with
  | zero =>
    intro k i m h hm ht hk
    obtain ⟨k, rfl⟩ : ∃ m, k = m + 1 := ⟨k - 1, by omega⟩
    simp only [laws_toBridgeS.l0]
    rw [if_neg (by omega)]
    rw [List.take_of_length_le (by omega), List.take_of_length_le (by rw [List.length_map]; omega)] at ht
    rw [ht]
  | succ d ih =>
    intro k i m h hm ht hk
    obtain ⟨k, rfl⟩ : ∃ m, k = m + 1 := ⟨k - 1, by omega⟩
    simp only [laws_toBridgeS.l0, laws_toBridge.f, Option.bind_some]
    rw [if_pos (by omega), if_pos (by omega), if_pos (by omega), w64 (by omega) (by omega), show ((i : Int) + 1) = ((i + 1 : Nat) : Int) by omega]
    refine ih k (i + 1) _ (by omega) (by rw [List.length_set]; exact hm) ?_ (by omega)
    rw [Int.toNat_natCast]
    exact set_take _ _ i (by rw [List.length_map]; omega) (by rw [List.length_map]; exact hm) ht _ (by rw [List.getElem?_map, List.getElem?_eq_getElem (by omega), rd_T44_at l i (by omega)]; rfl)
theorem laws_toBridgeS_eq (l : List S44) (k : Nat) (hn : l.length ≤ 5864062014805) (hk : l.length < k) : laws_toBridgeS.f k l = some (l.map cv44) := by
  unfold laws_toBridgeS.f
  rw [if_pos (by omega), if_pos (by omega)]
  exact laws_toBridgeS_l l (by omega) l.length k 0 _ (by omega) (by simp) (by simp) hk

-- eqs(46;laws_eqBridgeS;laws_eqBridge)
theorem laws_eqBridgeS_l (l : List S46) (hn : l.length ≤ 4611686018427387904) (d : Nat) : ∀ (k i : Nat), i + d = l.length → d < k → laws_eqBridgeS.l0 k l l i = some true := by
  induction d with
  | zero =>
    intro k i h hk
    obtain ⟨k, rfl⟩ : ∃ m, k = m + 1 := ⟨k - 1, by omega⟩
    simp only [laws_eqBridgeS.l0]
    rw [if_neg (by omega)]
  | succ d ih =>
    intro k i h hk
    obtain ⟨k, rfl⟩ : ∃ m, k = m + 1 := ⟨k - 1, by omega⟩
    have h1 := ih k (i + 1) (by omega) (by omega)
    simp only [laws_eqBridgeS.l0]
    rw [if_pos (by omega), if_pos (by omega), if_pos (by omega), w64 (by omega) (by omega), show ((i : Int) + 1) = ((i + 1 : Nat) : Int) by omega, h1]
    unfold laws_eqBridge.f
    simp
theorem laws_eqBridgeS_refl (l : List S46) (k : Nat) (hn : l.length ≤ 4611686018427387904) (hk : l.length < k) : laws_eqBridgeS.f k l l = some true := by
  unfold laws_eqBridgeS.f
  rw [if_pos rfl]
  exact laws_eqBridgeS_l l hn l.length k 0 (by omega) hk

theorem FnExactLeaderOf : laws_FnExactLeaderOf.PureS := by
  intro l ⟨hn, _⟩
  refine ⟨l.length + 9, ?_⟩
  have hm : (l.map cv44).length = l.length := List.length_map _
  have ht := fun k => laws_toBridgeS_eq l k (by omega)
  unfold laws_FnExactLeaderOf.f laws_szBridgeS.f
  rw [w64 (by omega) (by omega)]
  by_cases h0 : 1048576 - (l.length : Int) < 0
  · rw [if_pos h0]
    simp
  · rw [if_neg h0]
    simp only [Option.bind_some]
    rw [if_neg h0, ht _ (by omega)]
    simp only [Option.bind_some]
    rw [spec_LeaderOf_f _ _ (by omega) (by omega), impl_LeaderOf_f _ _ (by omega) (by omega)]
    simp only [Option.bind_some, bne_self_eq_false, Bool.false_eq_true, if_true]
    simp only [laws_FnExactLeaderOf.j0, Bool.false_eq_true, if_false]
    rw [ht _ (by omega)]
    simp only [Option.bind_some]
    rw [laws_eqBridgeS_refl _ _ (by omega) (by omega)]
    simp

end Go.Proofs.Ytnemglgbginbdaa.Pure
