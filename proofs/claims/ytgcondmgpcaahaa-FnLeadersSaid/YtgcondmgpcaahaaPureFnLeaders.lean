/- FnLeaders answers true for all drawn bridges. No condition beyond the row's own bounds. -/
import Derived.Test.YtgcondmgpcaahaaSFnLeaders
namespace Go.Proofs.Ytgcondmgpcaahaa.Pure
open Go.RowKit Go.Proofs.Ytgcondmgpcaahaa.PFnLeaders Go.Proofs.YtgcondmgpcaahaaW.PrintWords Go.Proofs.YtgcondmgpcaahaaW.PrintLast
set_option linter.unusedVariables false
set_option linter.unusedSimpArgs false

-- w64
theorem w64 {x : Int} (h0 : -9223372036854775808 ≤ x) (h1 : x ≤ 9223372036854775807) : wrap64 x = x := by
  unfold wrap64
  omega
theorem tm {x y : Int} (h0 : 0 ≤ x) : Int.tmod x y = x % y := Int.tmod_eq_emod_of_nonneg h0
theorem wf64 {x : Int} (h : (Lit.int .i64 x).wf = true) : -9223372036854775808 ≤ x ∧ x ≤ 9223372036854775807 := by
  simp [Lit.wf, IntKind.min, IntKind.max, IntKind.signed, IntKind.bits] at h
  omega

-- inrange(impl_in)
theorem impl_in_eq (a lo hi : Int) : impl_in.f a lo hi = some (decide (lo ≤ a ∧ a ≤ hi)) := by
  unfold impl_in.f
  by_cases h : lo ≤ a
  · rw [if_pos (show a ≥ lo from h)]
    simp [h]
  · rw [if_neg (show ¬ a ≥ lo from h)]
    simp [h]

-- allin(impl_allIn;impl_in)
theorem impl_allIn_l (lo hi : Int) (l : List Int) (hn : l.length ≤ 4611686018427387904) (d : Nat) : ∀ (k i : Nat), i + d = l.length → d < k →
    impl_allIn.l0 k lo hi l l.length i = some ((l.drop i).all fun x => decide (lo ≤ x ∧ x ≤ hi)) := by
  induction d with
  | zero =>
    intro k i h hk
    obtain ⟨k, rfl⟩ : ∃ m, k = m + 1 := ⟨k - 1, by omega⟩
    simp only [impl_allIn.l0]
    rw [if_neg (by omega), List.drop_of_length_le (by omega)]
    rfl
  | succ d ih =>
    intro k i h hk
    obtain ⟨k, rfl⟩ : ∃ m, k = m + 1 := ⟨k - 1, by omega⟩
    have h1 := ih k (i + 1) (by omega) (by omega)
    have ea : l.drop i = rd l i :: l.drop (i + 1) := by
      unfold rd
      rw [Int.toNat_natCast, List.getD_eq_getElem?_getD, List.getElem?_eq_getElem (by omega)]
      exact List.drop_eq_getElem_cons (by omega)
    simp only [impl_allIn.l0]
    rw [if_pos (by omega), if_pos (by omega), if_pos (by omega), impl_in_eq, ea, List.all_cons]
    simp only [Option.bind_some]
    by_cases e : lo ≤ rd l i ∧ rd l i ≤ hi
    · rw [decide_eq_true e]
      simp only [if_true, Bool.true_and]
      rw [w64 (by omega) (by omega), show ((i : Int) + 1) = ((i + 1 : Nat) : Int) by omega]
      exact h1
    · rw [decide_eq_false e]
      simp
theorem impl_allIn_eq (l : List Int) (lo hi : Int) (k : Nat) (hn : l.length ≤ 4611686018427387904) (hk : l.length < k) : impl_allIn.f k l lo hi = some (l.all fun x => decide (lo ≤ x ∧ x ≤ hi)) := by
  have h := impl_allIn_l lo hi l hn l.length k 0 (by omega) hk
  unfold impl_allIn.f
  simpa using h

-- mid(rd_L4)
theorem rdL_at (l : List (List Int)) (i : Nat) (h : i < l.length) : rd_L4 l i = l[i] := by
  simp [rd_L4, List.getD_eq_getElem?_getD, List.getElem?_eq_getElem h]
theorem rdL_mid (a : List (List Int)) (x : List Int) (b : List (List Int)) : rd_L4 (a ++ x :: b) (a.length : Int) = x := by
  rw [rdL_at _ _ (by simp)]
  simp
theorem setL_mid (a : List (List Int)) (x y : List Int) (b : List (List Int)) : (a ++ x :: b).set ((a.length : Int)).toNat y = (a ++ [y]) ++ b := by
  rw [Int.toNat_natCast, List.set_append_right _ _ (Nat.le_refl _), Nat.sub_self]
  simp
theorem len_mid {α : Type} (a : List α) (x : α) (b : List α) : (a.length : Int) < ((a ++ x :: b).length : Int) := by
  rw [List.length_append, List.length_cons]; omega
theorem next_mid {α : Type} (a : List α) (x : α) (h : a.length ≤ 4611686018427387904) : wrap64 ((a.length : Int) + 1) = ((a ++ [x]).length : Int) := by
  rw [w64 (by omega) (by omega), List.length_append, List.length_singleton]; omega

-- helps
theorem set_take {α : Type} (m L : List α) (i : Nat) (hi : i < L.length) (hm : m.length = L.length) (ht : m.take i = L.take i) (v : α) (hv : L[i]? = some v) : (m.set i v).take (i + 1) = L.take (i + 1) := by
  rw [List.take_set, List.take_succ_eq_append_getElem (by omega), List.take_succ_eq_append_getElem hi, ht, List.set_append_right _ _ (by rw [List.length_take]; omega)]
  rw [List.length_take, show i - min i L.length = 0 by omega]
  rw [List.getElem?_eq_getElem hi] at hv
  rw [Option.some.inj hv]
  rfl
/-- From some number of rounds on: one number for a pair. -/
theorem ev_at {α : Type} {g : Nat → Option α} {r : α} (h : Ev g r) : ∃ K, ∀ k, K ≤ k → g k = some r := h
theorem ev_some {α : Type} {g : Nat → Option α} {r : α} (h : ∀ k, g k = some r) : Ev g r := ⟨0, fun k _ => h k⟩
theorem ev_ge {α : Type} {g : Nat → Option α} {r : α} (K : Nat) (h : ∀ k, K ≤ k → g k = some r) : Ev g r := ⟨K, h⟩

-- rdt(35)
theorem rd_T35_at (l : List S35) (i : Nat) (h : i < l.length) : rd_T35 l i = l[i] := by
  simp [rd_T35, List.getD_eq_getElem?_getD, List.getElem?_eq_getElem h]

-- goodb(35)
theorem in_same (a b c : Int) : impl_in.f a b c = spec_l1In.f a b c := rfl
theorem bridge_same (a b : Int) (c : Bool) : impl_isBridge.f a b c = spec_l4Bridge.f a b c := rfl
theorem goodb_l : ∀ (k : Nat) (x0 x5 : List S35) (x6 x7 : Int), impl_GoodBridges.l0 k x0 x5 x6 x7 = spec_GoodBridges.l0 k x0 x5 x6 x7
  | 0, _, _, _, _ => rfl
  | k + 1, x0, x5, x6, x7 => by simp only [impl_GoodBridges.l0, spec_GoodBridges.l0, bridge_same, in_same, goodb_l k]
theorem goodb_same (k : Nat) (l : List S35) : impl_GoodBridges.f k l = spec_GoodBridges.f k l := goodb_l k l l _ _
def okB (x : S35) : Bool := decide ((1 ≤ x.f0 ∧ x.f0 ≤ 1000) ∧ 0 ≤ x.f1 ∧ x.f1 ≤ 127)
theorem okB_eq (x : S35) : spec_l4Bridge.f x.f0 x.f1 x.f2 = some (okB x) := by
  unfold spec_l4Bridge.f spec_l1In.f okB
  by_cases h0 : 1 ≤ x.f0
  · by_cases h1 : x.f0 ≤ 1000
    · by_cases h2 : 0 ≤ x.f1
      · simp [h0, h1, h2]
      · simp [h0, h1, h2]
    · simp [h0, h1]
  · simp [h0]
/-- Bridges with rising Ids behind one. -/
def upB (p : Int) : List S35 → Bool
  | [] => true
  | x :: r => okB x && (decide (p < x.f0) && upB x.f0 r)
def goodB (l : List S35) : Bool := upB 0 l && decide (1 ≤ l.length ∧ l.length ≤ 10)
def before (l : List S35) : Nat → Int
  | 0 => 0
  | i + 1 => (rd_T35 l i).f0
theorem drop_B (l : List S35) (i : Nat) (h : i < l.length) : l.drop i = rd_T35 l i :: l.drop (i + 1) := by
  rw [rd_T35_at l i h]
  exact List.drop_eq_getElem_cons h
theorem wi (i : Nat) (h : i ≤ 4611686018427387904) : wrap64 ((i : Int) + 1) = ((i + 1 : Nat) : Int) := by
  rw [w64 (by omega) (by omega)]
  omega
theorem spec_goodB_l (l : List S35) (hn : l.length ≤ 4611686018427387904) (d : Nat) : ∀ (k i : Nat), i + d = l.length → d < k →
    spec_GoodBridges.l0 k l l l.length i = some (upB (before l i) (l.drop i) && decide (1 ≤ l.length ∧ l.length ≤ 10)) := by
  induction d with
  | zero =>
    intro k i h hk
    obtain ⟨k, rfl⟩ : ∃ m, k = m + 1 := ⟨k - 1, by omega⟩
    simp only [spec_GoodBridges.l0, spec_l1In.f]
    rw [if_neg (by omega), List.drop_of_length_le (by omega)]
    simp only [upB, Bool.true_and]
    by_cases h1 : 1 ≤ l.length
    · rw [if_pos (show (l.length : Int) ≥ 1 by omega)]
      by_cases h2 : l.length ≤ 10
      · rw [decide_eq_true (show (l.length : Int) ≤ 10 by omega), decide_eq_true ⟨h1, h2⟩]
        rfl
      · rw [decide_eq_false (show ¬ (l.length : Int) ≤ 10 by omega), decide_eq_false (fun e => h2 e.2)]
        rfl
    · rw [if_neg (show ¬ (l.length : Int) ≥ 1 by omega), decide_eq_false (fun e => h1 e.1)]
      rfl
  | succ d ih =>
    intro k i h hk
    obtain ⟨k, rfl⟩ : ∃ m, k = m + 1 := ⟨k - 1, by omega⟩
    have ih := ih k (i + 1) (by omega) (by omega)
    rw [drop_B l i (by omega)]
    simp only [spec_GoodBridges.l0]
    rw [if_pos (by omega), if_pos (by omega), if_pos (by omega), okB_eq, wi _ (by omega)]
    simp only [Option.bind_some, upB]
    cases ho : okB (rd_T35 l i)
    · simp
    · simp only [if_true, Bool.true_and]
      cases i with
      | zero =>
        rw [if_neg (by omega)]
        have hp : (0 : Int) < (rd_T35 l 0).f0 := by
          unfold okB at ho
          simp at ho
          omega
        rw [ih, show before l 0 = 0 from rfl]
        simp only [before, Int.natCast_zero, show ((0 : Nat) : Int) = 0 from rfl]
        rw [decide_eq_true hp]
        simp
      | succ i =>
        rw [if_pos (by omega), w64 (x := ((i + 1 : Nat) : Int) - 1) (by omega) (by omega), show ((i + 1 : Nat) : Int) - 1 = (i : Int) by omega, if_pos (by omega), if_pos (by omega)]
        have hb : before l (i + 1) = (rd_T35 l i).f0 := rfl
        by_cases hlt : before l (i + 1) < (rd_T35 l ((i + 1 : Nat) : Int)).f0
        · rw [if_neg (by omega), ih, decide_eq_true hlt]
          simp only [Bool.true_and]
          rfl
        · rw [if_pos (by omega), decide_eq_false hlt]
          simp
theorem spec_goodB (l : List S35) (k : Nat) (hn : l.length ≤ 4611686018427387904) (hk : l.length < k) : spec_GoodBridges.f k l = some (goodB l) := by
  have h := spec_goodB_l l hn l.length k 0 (by omega) hk
  rw [List.drop_zero] at h
  exact h
theorem impl_goodB (l : List S35) (k : Nat) (hn : l.length ≤ 4611686018427387904) (hk : l.length < k) : impl_GoodBridges.f k l = some (goodB l) := by
  rw [goodb_same]
  exact spec_goodB l k hn hk
theorem upB_ok : ∀ (l : List S35) (p : Int), upB p l = true → ∀ x ∈ l, okB x = true ∧ p < x.f0
  | y :: l, p, h, x, hx => by
    simp only [upB, Bool.and_eq_true, decide_eq_true_eq] at h
    rcases List.mem_cons.1 hx with rfl | hx
    · exact ⟨h.1, h.2.1⟩
    · have := upB_ok l _ h.2.2 x hx
      exact ⟨this.1, by omega⟩
theorem goodB_ok (l : List S35) (h : goodB l = true) : (∀ x ∈ l, (1 ≤ x.f0 ∧ x.f0 ≤ 1000) ∧ 0 ≤ x.f1 ∧ x.f1 ≤ 127) ∧ 1 ≤ l.length ∧ l.length ≤ 10 := by
  unfold goodB at h
  simp only [Bool.and_eq_true, decide_eq_true_eq] at h
  refine ⟨fun x hx => ?_, h.2⟩
  have := (upB_ok l 0 h.1 x hx).1
  unfold okB at this
  simpa using this

-- dropi
theorem drop_i (l : List Int) (i : Nat) (h : i < l.length) : l.drop i = rd l i :: l.drop (i + 1) := by
  unfold rd
  rw [Int.toNat_natCast, List.getD_eq_getElem?_getD, List.getElem?_eq_getElem h]
  exact List.drop_eq_getElem_cons h
theorem rd_mem (l : List Int) (i : Nat) (h : i < l.length) : rd l i ∈ l := by
  unfold rd
  rw [Int.toNat_natCast, List.getD_eq_getElem?_getD, List.getElem?_eq_getElem h]
  exact List.getElem_mem h

-- leader(35)
def btB (a b : S35) : Bool := decide (a.f1 > b.f1 ∨ a.f1 = b.f1 ∧ a.f0 > b.f0)
theorem spec_beatsB (a b : S35) : spec_l4Beats.f a.f0 a.f1 a.f2 b.f0 b.f1 b.f2 = some (btB a b) := by
  unfold spec_l4Beats.f btB
  by_cases h : a.f1 > b.f1
  · simp [h]
  · by_cases h2 : a.f1 = b.f1
    · simp [h2]
    · simp [h, h2]
theorem impl_beatsB (a b : S35) : impl_beats.f a.f0 a.f1 a.f2 b.f0 b.f1 b.f2 = some (btB a b) := spec_beatsB a b
/-- The leader of some, behind one that leads till here. -/
def lead : Option S35 → List S35 → Option S35
  | b, [] => b
  | none, x :: r => lead (if x.f2 = true then some x else none) r
  | some b, x :: r => lead (if x.f2 = true ∧ btB x b = true then some x else some b) r
def leadId (o : Option S35) : Int := match o with | none => 0 | some x => x.f0
theorem impl_leader_l (l : List S35) (hn : l.length ≤ 4611686018427387904) (hok : ∀ x ∈ l, 1 ≤ x.f0) (d : Nat) : ∀ (k i : Nat) (b : S35) (o : Option S35), (o = none ∧ b.f0 = 0 ∨ o = some b ∧ 1 ≤ b.f0) → i + d = l.length → d < k →
    impl_leader.l0 k l l.length i b.f0 b.f1 b.f2 = some (leadId (lead o (l.drop i))) := by
  induction d with
  | zero =>
    intro k i b o ho h hk
    obtain ⟨k, rfl⟩ : ∃ m, k = m + 1 := ⟨k - 1, by omega⟩
    simp only [impl_leader.l0]
    rw [if_neg (by omega), List.drop_of_length_le (by omega)]
    rcases ho with ⟨rfl, hb⟩ | ⟨rfl, hb⟩
    · simp [lead, leadId, hb]
    · simp [lead, leadId]
  | succ d ih =>
    intro k i b o ho h hk
    obtain ⟨k, rfl⟩ : ∃ m, k = m + 1 := ⟨k - 1, by omega⟩
    have hx : 1 ≤ (rd_T35 l i).f0 := by
      rw [rd_T35_at l i (by omega)]
      exact hok _ (List.getElem_mem _)
    rw [drop_B l i (by omega)]
    simp only [impl_leader.l0]
    rw [if_pos (by omega), if_pos (by omega), if_pos (by omega), wi _ (by omega), impl_beatsB]
    have ih1 := ih k (i + 1) (rd_T35 l i) (some (rd_T35 l i)) (Or.inr ⟨rfl, hx⟩) (by omega) (by omega)
    have ih2 := ih k (i + 1) b o ho (by omega) (by omega)
    rcases ho with ⟨rfl, hb⟩ | ⟨rfl, hb⟩
    · simp only [lead]
      cases hu : (rd_T35 l i).f2
      · rw [if_neg (by decide), if_neg (by decide)]
        exact ih2
      · rw [if_pos rfl, if_pos hb, if_pos rfl]
        rw [hu] at ih1
        exact ih1
    · simp only [lead]
      cases hu : (rd_T35 l i).f2
      · rw [if_neg (by decide), if_neg (by simp)]
        exact ih2
      · rw [if_pos rfl, if_neg (by omega)]
        simp only [Option.bind_some]
        cases hbt : btB (rd_T35 l i) b
        · rw [if_neg (by decide), if_neg (by simp)]
          exact ih2
        · rw [if_pos rfl, if_pos (by simp)]
          rw [hu] at ih1
          exact ih1
theorem impl_leaderB (l : List S35) (k : Nat) (hn : l.length ≤ 4611686018427387904) (hok : ∀ x ∈ l, 1 ≤ x.f0) (hk : l.length < k) : impl_leader.f k l = some (leadId (lead none l)) := by
  have h := impl_leader_l l hn hok l.length k 0 ⟨0, 0, false⟩ none (Or.inl ⟨rfl, rfl⟩) (by omega) hk
  rw [List.drop_zero] at h
  exact h
/-- The leader of those at some places. -/
theorem spec_leader_l (l : List S35) (at_ : List Int) (hn : at_.length ≤ 4611686018427387904) (hin : ∀ x ∈ at_, 0 ≤ x ∧ x < l.length) (d : Nat) : ∀ (k i : Nat) (b : Int) (o : Option S35), (o = none ∧ b < 0 ∨ (0 ≤ b ∧ b < l.length) ∧ o = some (rd_T35 l b)) → i + d = at_.length → d < k →
    spec_l4Leader.l0 k l b at_ at_.length i = some (leadId (lead o ((at_.drop i).map fun x => rd_T35 l x))) := by
  induction d with
  | zero =>
    intro k i b o ho h hk
    obtain ⟨k, rfl⟩ : ∃ m, k = m + 1 := ⟨k - 1, by omega⟩
    simp only [spec_l4Leader.l0]
    rw [if_neg (by omega), List.drop_of_length_le (by omega)]
    rcases ho with ⟨rfl, hb⟩ | ⟨hb, rfl⟩
    · rw [if_pos hb]
      rfl
    · rw [if_neg (by omega), if_pos hb.1, if_pos hb.2]
      rfl
  | succ d ih =>
    intro k i b o ho h hk
    obtain ⟨k, rfl⟩ : ∃ m, k = m + 1 := ⟨k - 1, by omega⟩
    have hx := hin _ (rd_mem at_ i (by omega))
    rw [drop_i at_ i (by omega), List.map_cons]
    simp only [spec_l4Leader.l0]
    rw [if_pos (by omega), if_pos (by omega), if_pos (by omega), if_pos hx.1, if_pos hx.2, wi _ (by omega)]
    have ih1 := ih k (i + 1) (rd at_ i) (some (rd_T35 l (rd at_ i))) (Or.inr ⟨hx, rfl⟩) (by omega) (by omega)
    have ih2 := ih k (i + 1) b o ho (by omega) (by omega)
    rcases ho with ⟨rfl, hb⟩ | ⟨hb, rfl⟩
    · simp only [lead]
      cases hu : (rd_T35 l (rd at_ i)).f2
      · rw [if_neg (by decide), if_neg (by decide)]
        exact ih2
      · rw [if_pos rfl, if_pos hb, if_pos rfl]
        exact ih1
    · simp only [lead]
      cases hu : (rd_T35 l (rd at_ i)).f2
      · rw [if_neg (by decide), if_neg (by simp)]
        exact ih2
      · rw [if_pos rfl, if_neg (by omega), if_pos hb.1, if_pos hb.2]
        have e := spec_beatsB (rd_T35 l (rd at_ i)) (rd_T35 l b)
        rw [hu] at e
        rw [e]
        simp only [Option.bind_some]
        cases hbt : btB (rd_T35 l (rd at_ i)) (rd_T35 l b)
        · rw [if_neg (by decide), if_neg (by simp)]
          exact ih2
        · rw [if_pos rfl, if_pos (by simp)]
          exact ih1
theorem spec_leaderB (l : List S35) (at_ : List Int) (k : Nat) (hn : at_.length ≤ 4611686018427387904) (hin : ∀ x ∈ at_, 0 ≤ x ∧ x < l.length) (hk : at_.length < k) :
    spec_l4Leader.f k l at_ = some (leadId (lead none (at_.map fun x => rd_T35 l x))) := by
  have h := spec_leader_l l at_ hn hin at_.length k 0 (-1) none (Or.inl ⟨rfl, by omega⟩) (by omega) hk
  rw [List.drop_zero] at h
  exact h

-- inrange(spec_l1In)
theorem spec_l1In_eq (a lo hi : Int) : spec_l1In.f a lo hi = some (decide (lo ≤ a ∧ a ≤ hi)) := by
  unfold spec_l1In.f
  by_cases h : lo ≤ a
  · rw [if_pos (show a ≥ lo from h)]
    simp [h]
  · rw [if_neg (show ¬ a ≥ lo from h)]
    simp [h]

-- leadersby(35;Ytgcondmgpcaahaa.PFnLeaders)
/-! Who leads does not hang on the order of those seen. -/
theorem bt_tot (a b : S35) (h1 : btB a b = false) (h2 : btB b a = false) : a.f0 = b.f0 := by
  simp only [btB, decide_eq_false_iff_not] at h1 h2
  omega
theorem bt_trans (a b c : S35) (h1 : btB a b = false) (h2 : btB b c = false) : btB a c = false := by
  simp only [btB, decide_eq_false_iff_not] at h1 h2 ⊢
  omega
theorem bt_irr (a : S35) : btB a a = false := by
  simp only [btB, decide_eq_false_iff_not]
  omega
theorem bt_asym (a b : S35) (h : btB a b = true) : btB b a = false := by
  simp only [btB, decide_eq_true_eq, decide_eq_false_iff_not] at h ⊢
  omega
def Leads (o : Option S35) (l : List S35) : Option S35 → Prop
  | none => o = none ∧ ∀ y ∈ l, y.f2 = false
  | some x => (o = some x ∨ (x ∈ l ∧ x.f2 = true)) ∧ (∀ y ∈ l, y.f2 = true → btB y x = false) ∧ ∀ b, o = some b → btB b x = false
theorem lead_is : ∀ (l : List S35) (o : Option S35), Leads o l (lead o l)
  | [], o => by
    cases o with
    | none => exact ⟨rfl, fun y hy => absurd hy (List.not_mem_nil)⟩
    | some b => exact ⟨.inl rfl, fun y hy => absurd hy (List.not_mem_nil), fun c hc => by cases hc; exact bt_irr b⟩
  | x :: l, o => by
    cases o with
    | none =>
      simp only [lead]
      cases hx : x.f2
      · rw [if_neg (by decide)]
        have h := lead_is l none
        cases e : lead none l with
        | none =>
          rw [e] at h
          refine ⟨rfl, fun y hy => ?_⟩
          rcases List.mem_cons.1 hy with rfl | hy
          · exact hx
          · exact h.2 y hy
        | some z =>
          rw [e] at h
          refine ⟨.inr ?_, fun y hy hu => ?_, fun b hb => by cases hb⟩
          · rcases h.1 with h1 | h1
            · cases h1
            · exact ⟨List.mem_cons_of_mem _ h1.1, h1.2⟩
          · rcases List.mem_cons.1 hy with rfl | hy
            · rw [hx] at hu; cases hu
            · exact h.2.1 y hy hu
      · rw [if_pos rfl]
        have h := lead_is l (some x)
        cases e : lead (some x) l with
        | none => rw [e] at h; exact absurd h.1 (by simp)
        | some z =>
          rw [e] at h
          refine ⟨.inr ?_, fun y hy hu => ?_, fun b hb => by cases hb⟩
          · rcases h.1 with h1 | h1
            · cases h1
              exact ⟨List.mem_cons_self, hx⟩
            · exact ⟨List.mem_cons_of_mem _ h1.1, h1.2⟩
          · rcases List.mem_cons.1 hy with rfl | hy
            · exact h.2.2 _ rfl
            · exact h.2.1 y hy hu
    | some b =>
      simp only [lead]
      by_cases hc : x.f2 = true ∧ btB x b = true
      · rw [if_pos hc]
        have h := lead_is l (some x)
        cases e : lead (some x) l with
        | none => rw [e] at h; exact absurd h.1 (by simp)
        | some z =>
          rw [e] at h
          refine ⟨.inr ?_, fun y hy hu => ?_, fun c hcb => ?_⟩
          · rcases h.1 with h1 | h1
            · cases h1
              exact ⟨List.mem_cons_self, hc.1⟩
            · exact ⟨List.mem_cons_of_mem _ h1.1, h1.2⟩
          · rcases List.mem_cons.1 hy with rfl | hy
            · exact h.2.2 _ rfl
            · exact h.2.1 y hy hu
          · cases hcb
            exact bt_trans _ x _ (bt_asym x b hc.2) (h.2.2 x rfl)
      · rw [if_neg hc]
        have h := lead_is l (some b)
        cases e : lead (some b) l with
        | none => rw [e] at h; exact absurd h.1 (by simp)
        | some z =>
          rw [e] at h
          refine ⟨?_, fun y hy hu => ?_, h.2.2⟩
          · rcases h.1 with h1 | h1
            · exact .inl h1
            · exact .inr ⟨List.mem_cons_of_mem _ h1.1, h1.2⟩
          · rcases List.mem_cons.1 hy with rfl | hy
            · have hn : btB y b = false := by
                cases hb : btB y b
                · rfl
                · exact absurd ⟨hu, hb⟩ hc
              exact bt_trans _ b _ hn (h.2.2 b rfl)
            · exact h.2.1 y hy hu
theorem lead_same (l m : List S35) (h : ∀ x, x ∈ l ↔ x ∈ m) : leadId (lead none l) = leadId (lead none m) := by
  have h1 := lead_is l none
  have h2 := lead_is m none
  cases e1 : lead none l with
  | none =>
    rw [e1] at h1
    cases e2 : lead none m with
    | none => rfl
    | some y =>
      rw [e2] at h2
      rcases h2.1 with h3 | ⟨h3, h4⟩
      · cases h3
      · have := h1.2 y ((h y).2 h3)
        rw [h4] at this
        cases this
  | some x =>
    rw [e1] at h1
    cases e2 : lead none m with
    | none =>
      rw [e2] at h2
      rcases h1.1 with h3 | ⟨h3, h4⟩
      · cases h3
      · have := h2.2 x ((h x).1 h3)
        rw [h4] at this
        cases this
    | some y =>
      rw [e2] at h2
      rcases h1.1 with h3 | ⟨h3, h4⟩
      · cases h3
      · rcases h2.1 with h5 | ⟨h5, h6⟩
        · cases h5
        · exact bt_tot x y (h2.2.1 x ((h x).1 h3) h4) (h1.2.1 y ((h y).2 h5) h6)
/-! Rising lists. -/
theorem len1 {α : Type} (a : List α) (x : α) : (a ++ [x]).length = a.length + 1 := by simp
def adj (p : Int) : List Int → Bool
  | [] => true
  | x :: l => decide (p < x) && adj x l
def chk (lo hi p : Int) : List Int → Bool
  | [] => true
  | x :: l => decide (lo ≤ x ∧ x ≤ hi) && (decide (p < x) && chk lo hi x l)
theorem chk_eq (lo hi : Int) : ∀ (l : List Int) (p : Int), chk lo hi p l = (adj p l && l.all fun x => decide (lo ≤ x ∧ x ≤ hi))
  | [], _ => rfl
  | x :: l, p => by
    simp only [chk, adj, List.all_cons, chk_eq lo hi l x]
    cases decide (lo ≤ x ∧ x ≤ hi) <;> cases decide (p < x) <;> simp
theorem rd_midI (a : List Int) (x : Int) (b : List Int) : rd (a ++ x :: b) (a.length : Int) = x := by
  simp [rd]
theorem specR_l (lo hi : Int) : ∀ (l a : List Int) (p : Int) (k : Nat), (a ++ p :: l).length ≤ 1000000000 → l.length < k →
    spec_l1Rising.l0 k (a ++ p :: l) lo hi (a ++ p :: l) (a ++ p :: l).length ((a.length : Int) + 1) = some (chk lo hi p l)
  | [], a, p, k, hl, hk => by
    obtain ⟨k, rfl⟩ : ∃ m, k = m + 1 := ⟨k - 1, by omega⟩
    simp only [spec_l1Rising.l0]
    rw [if_neg (by rw [List.length_append, List.length_singleton]; omega)]
    rfl
  | x :: l, a, p, k, hl, hk => by
    obtain ⟨k, rfl⟩ : ∃ m, k = m + 1 := ⟨k - 1, by omega⟩
    have hl2 := hl
    rw [List.length_append, List.length_cons, List.length_cons] at hl2
    rw [List.length_cons] at hk
    have h := specR_l lo hi l (a ++ [p]) x k (by rw [List.append_assoc, List.singleton_append]; exact hl) (by omega)
    rw [List.append_assoc, List.singleton_append, len1 a p] at h
    have ex : rd (a ++ p :: x :: l) ((a.length : Int) + 1) = x := by
      have := rd_midI (a ++ [p]) x l
      rw [List.append_assoc, List.singleton_append, List.length_append, List.length_singleton] at this
      rw [show (a.length : Int) + 1 = ((a.length + 1 : Nat) : Int) by omega]
      exact this
    simp only [spec_l1Rising.l0]
    rw [if_pos (by rw [List.length_append, List.length_cons, List.length_cons]; omega), if_pos (by omega), if_pos (by rw [List.length_append, List.length_cons, List.length_cons]; omega), ex, spec_l1In_eq]
    simp only [Option.bind_some]
    rw [w64 (x := (a.length : Int) + 1 - 1) (by omega) (by omega), show (a.length : Int) + 1 - 1 = a.length by omega, rd_midI, w64 (x := (a.length : Int) + 1 + 1) (by omega) (by omega)]
    simp only [chk]
    by_cases e : lo ≤ x ∧ x ≤ hi
    · rw [decide_eq_true e]
      simp only [if_true, Bool.true_and]
      rw [if_pos (by omega), if_pos (by omega), if_pos (by rw [List.length_append, List.length_cons, List.length_cons]; omega)]
      by_cases e2 : p < x
      · rw [if_neg (by omega), decide_eq_true e2, Bool.true_and]
        rw [show (a.length : Int) + 1 + 1 = ((a.length + 1 : Nat) : Int) + 1 by omega]
        exact h
      · rw [if_pos (by omega), decide_eq_false e2, Bool.false_and]
    · rw [decide_eq_false e]
      simp
def okRow (lo hi : Int) : List Int → Bool
  | [] => true
  | p :: l => decide (lo ≤ p ∧ p ≤ hi) && chk lo hi p l
theorem specR (lo hi : Int) (l : List Int) (k : Nat) (hl : l.length ≤ 1000000000) (hk : l.length < k) : spec_l1Rising.f k l lo hi = some (okRow lo hi l) := by
  obtain ⟨k, rfl⟩ : ∃ m, k = m + 1 := ⟨k - 1, by omega⟩
  unfold spec_l1Rising.f
  cases l with
  | nil => simp [spec_l1Rising.l0, okRow]
  | cons p l =>
    rw [List.length_cons] at hk
    have h := specR_l lo hi l [] p k hl (by omega)
    simp only [spec_l1Rising.l0]
    have e0 : rd (p :: l) 0 = p := by simp [rd]
    rw [if_pos (by rw [List.length_cons]; omega), if_pos (by omega), if_pos (by rw [List.length_cons]; omega), e0, spec_l1In_eq]
    simp only [Option.bind_some, okRow]
    by_cases e : lo ≤ p ∧ p ≤ hi
    · rw [decide_eq_true e]
      simp only [if_true, Bool.true_and]
      rw [if_neg (by omega), w64 (by omega) (by omega)]
      simpa using h
    · rw [decide_eq_false e]
      simp
theorem implR_l : ∀ (l a : List Int) (p : Int) (k : Nat), (a ++ p :: l).length ≤ 1000000000 → l.length < k →
    impl_rising.l0 k (a ++ p :: l) ((a.length : Int) + 1) = some (adj p l)
  | [], a, p, k, hl, hk => by
    obtain ⟨k, rfl⟩ : ∃ m, k = m + 1 := ⟨k - 1, by omega⟩
    simp only [impl_rising.l0]
    rw [if_neg (by rw [List.length_append, List.length_singleton]; omega)]
    rfl
  | x :: l, a, p, k, hl, hk => by
    obtain ⟨k, rfl⟩ : ∃ m, k = m + 1 := ⟨k - 1, by omega⟩
    have hl2 := hl
    rw [List.length_append, List.length_cons, List.length_cons] at hl2
    rw [List.length_cons] at hk
    have h := implR_l l (a ++ [p]) x k (by rw [List.append_assoc, List.singleton_append]; exact hl) (by omega)
    rw [List.append_assoc, List.singleton_append, len1 a p] at h
    have ex : rd (a ++ p :: x :: l) ((a.length : Int) + 1) = x := by
      have := rd_midI (a ++ [p]) x l
      rw [List.append_assoc, List.singleton_append, List.length_append, List.length_singleton] at this
      rw [show (a.length : Int) + 1 = ((a.length + 1 : Nat) : Int) by omega]
      exact this
    simp only [impl_rising.l0]
    rw [if_pos (by rw [List.length_append, List.length_cons, List.length_cons]; omega), w64 (x := (a.length : Int) + 1 - 1) (by omega) (by omega), show (a.length : Int) + 1 - 1 = a.length by omega, if_pos (by omega), if_pos (by rw [List.length_append, List.length_cons, List.length_cons]; omega), if_pos (by omega), rd_midI, ex, w64 (x := (a.length : Int) + 1 + 1) (by omega) (by omega)]
    simp only [adj]
    by_cases e2 : p < x
    · rw [if_neg (by omega), decide_eq_true e2, Bool.true_and]
      rw [show (a.length : Int) + 1 + 1 = ((a.length + 1 : Nat) : Int) + 1 by omega]
      exact h
    · rw [if_pos (by omega), decide_eq_false e2, Bool.false_and]
def ris : List Int → Bool
  | [] => true
  | p :: l => adj p l
theorem implR (l : List Int) (k : Nat) (hl : l.length ≤ 1000000000) (hk : l.length < k) : impl_rising.f k l = some (ris l) := by
  obtain ⟨k, rfl⟩ : ∃ m, k = m + 1 := ⟨k - 1, by omega⟩
  unfold impl_rising.f
  cases l with
  | nil => simp [impl_rising.l0, ris]
  | cons p l =>
    rw [List.length_cons] at hk
    have h := implR_l l [] p (k + 1) hl (by omega)
    simpa [ris] using h
theorem okRow_eq (lo hi : Int) (l : List Int) : okRow lo hi l = (ris l && l.all fun x => decide (lo ≤ x ∧ x ≤ hi)) := by
  cases l with
  | nil => rfl
  | cons p l =>
    simp only [okRow, ris, chk_eq, List.all_cons]
    cases decide (lo ≤ p ∧ p ≤ hi) <;> cases adj p l <;> simp
theorem okRow_in (lo hi : Int) (l : List Int) (h : okRow lo hi l = true) : ∀ x ∈ l, lo ≤ x ∧ x ≤ hi := by
  rw [okRow_eq, Bool.and_eq_true] at h
  intro x hx
  have := List.all_eq_true.1 h.2 x hx
  simpa using this
theorem put_of (l : List Int) (n x : Int) : x ∈ put l n ↔ x ∈ l ∨ x = n := by
  unfold put
  split
  · rename_i h
    constructor
    · exact fun h => .inl h
    · rintro (h1 | rfl)
      · exact h1
      · rw [← h.2]
        unfold rd
        rw [Int.toNat_natCast, List.getD_eq_getElem?_getD, List.getElem?_eq_getElem h.1]
        exact List.getElem_mem h.1
  · rw [List.mem_append, List.mem_append, List.mem_singleton]
    have e : x ∈ l ↔ x ∈ l.take (_root_.Go.Proofs.Ytgcondmgpcaahaa.PFnLeaders.ahead n l) ∨ x ∈ l.drop (_root_.Go.Proofs.Ytgcondmgpcaahaa.PFnLeaders.ahead n l) := by
      rw [← List.mem_append, List.take_append_drop]
    rw [e]
    constructor
    · rintro ((h | h) | h)
      · exact .inl (.inl h)
      · exact .inr h
      · exact .inl (.inr h)
    · rintro ((h | h) | h)
      · exact .inl (.inl h)
      · exact .inr h
      · exact .inl (.inr h)
theorem put_len (l : List Int) (n : Int) : (put l n).length ≤ l.length + 1 := by
  unfold put
  split
  · omega
  · rw [List.length_append, List.length_append, List.length_take, List.length_drop, List.length_singleton]; omega
/-! Both halves. -/
def who (l : List S35) (i : Nat) (x : List Int) : Int := leadId (lead none (rd_T35 l i :: x.map fun y => rd_T35 l y))
def outB (l : List S35) : Nat → List (List Int) → List Int → List Int × Bool
  | _, [], out => (out, true)
  | i, x :: s, out => if okRow 0 ((l.length : Int) - 1) x = true then outB l (i + 1) s (out ++ [who l i x]) else ([], false)
theorem who_spec (l : List S35) (i : Nat) (x : List Int) : leadId (lead none ((put x i).map fun y => rd_T35 l y)) = who l i x := by
  unfold who
  refine lead_same _ _ fun z => ?_
  rw [List.mem_map, List.mem_cons, List.mem_map]
  constructor
  · rintro ⟨y, hy, rfl⟩
    rcases (put_of x i y).1 hy with h | rfl
    · exact .inr ⟨y, h, rfl⟩
    · exact .inl rfl
  · rintro (rfl | ⟨y, hy, rfl⟩)
    · exact ⟨i, (put_of x i i).2 (.inr rfl), rfl⟩
    · exact ⟨y, (put_of x i y).2 (.inl hy), rfl⟩
theorem specL_l (B : Nat) (hB : B ≤ 10000000) (l : List S35) (hl : l.length ≤ 10) : ∀ (s a : List (List Int)) (out : List Int) (k : Nat), (∀ x ∈ s, x.length ≤ B) → (a ++ s).length = l.length → out.length ≤ a.length → s.length + B + 10 < k →
    spec_LeadersBy.l0 k l (a ++ s) out a.length = some (outB l a.length s out)
  | [], a, out, k, _, _, _, hk => by
    obtain ⟨k, rfl⟩ : ∃ m, k = m + 1 := ⟨k - 1, by omega⟩
    simp only [spec_LeadersBy.l0, List.append_nil]
    rw [if_neg (by omega)]
    rfl
  | x :: s, a, out, k, hb, hn, ho, hk => by
    obtain ⟨k, rfl⟩ : ∃ m, k = m + 1 := ⟨k - 1, by omega⟩
    have hx := hb x List.mem_cons_self
    have hn2 := hn
    rw [List.length_append, List.length_cons] at hn2
    rw [List.length_cons] at hk
    simp only [spec_LeadersBy.l0, outB]
    rw [if_pos (len_mid a x s), if_pos (by omega), rdL_mid, w64 (x := (l.length : Int) - 1) (by omega) (by omega), specR _ _ x k (by omega) (by omega)]
    simp only [Option.bind_some]
    cases hok : okRow 0 ((l.length : Int) - 1) x
    · rw [if_neg (by decide), if_neg (by decide)]
    · rw [if_pos rfl, if_pos rfl, if_pos (by omega)]
      have hin := okRow_in _ _ x hok
      have hpl := put_len x (a.length : Int)
      rw [spec_leaderB l (put x (a.length : Int)) k (by omega) (by
        intro y hy
        rcases (put_of x (a.length : Int) y).1 hy with h | rfl
        · have := hin y h; omega
        · omega) (by omega), who_spec]
      simp only [Option.bind_some]
      rw [if_pos (by omega), next_mid a x (by omega)]
      have h := specL_l B hB l hl s (a ++ [x]) (out ++ [who l a.length x]) k (fun y hy => hb y (List.mem_cons_of_mem _ hy)) (by rw [List.append_assoc, List.singleton_append]; exact hn) (by rw [List.length_append, List.length_append, List.length_singleton, List.length_singleton]; omega) (by omega)
      rw [List.append_assoc a [x] s, List.singleton_append, len1 a x] at h
      rw [List.length_append, List.length_singleton]
      exact h
theorem implS_l (l : List S35) (hl : l.length ≤ 10) (out : List Int) (s : List (List Int)) (n i : Int) : ∀ (y b : List Int) (z : List S35) (k : Nat), (∀ x ∈ y, 0 ≤ x ∧ x ≤ (l.length : Int) - 1) → (b ++ y).length ≤ 10000000 → z.length ≤ b.length + 1 → y.length < k →
    impl_LeadersBy.l1 k l out z s n i (b ++ y) (b ++ y).length b.length = (impl_leader.f (k - 1 - y.length) (z ++ y.map fun y => rd_T35 l y)).bind fun t => if out.length < 17592186044416 then impl_LeadersBy.l0 (k - 1 - y.length) l (out ++ [t]) s n (wrap64 (i + 1)) else none
  | [], b, z, k, _, _, _, hk => by
    obtain ⟨k, rfl⟩ : ∃ m, k = m + 1 := ⟨k - 1, by omega⟩
    simp only [impl_LeadersBy.l1, List.append_nil, List.map_nil]
    rw [if_neg (by omega)]
    rfl
  | x :: y, b, z, k, hb, hn, hz, hk => by
    obtain ⟨k, rfl⟩ : ∃ m, k = m + 1 := ⟨k - 1, by omega⟩
    have hx := hb x List.mem_cons_self
    have hn2 := hn
    rw [List.length_append, List.length_cons] at hn2
    rw [List.length_cons] at hk
    simp only [impl_LeadersBy.l1]
    rw [if_pos (len_mid b x y), if_pos (by omega), if_pos (len_mid b x y), rd_midI, if_pos (by omega), if_pos (by omega), if_pos (by omega), next_mid b x (by omega)]
    have h := implS_l l hl out s n i y (b ++ [x]) (z ++ [rd_T35 l x]) k (fun w hw => hb w (List.mem_cons_of_mem _ hw)) (by rw [List.append_assoc, List.singleton_append]; exact hn) (by rw [List.length_append, List.length_append, List.length_singleton, List.length_singleton]; omega) (by omega)
    rw [List.append_assoc b [x] y, List.singleton_append, List.append_assoc z, List.singleton_append] at h
    rw [show k + 1 - 1 - (x :: y).length = k - 1 - y.length by rw [List.length_cons]; omega]
    exact h
theorem rd_in (l : List S35) (i : Nat) (h : i < l.length) : rd_T35 l i ∈ l := by
  rw [show rd_T35 l i = l[i] by simp [rd_T35, List.getD_eq_getElem?_getD, List.getElem?_eq_getElem h]]
  exact List.getElem_mem h
theorem implL_l (B : Nat) (hB : B ≤ 1048576) (l : List S35) (hl : l.length ≤ 10) (hid : ∀ x ∈ l, 1 ≤ x.f0) : ∀ (s a : List (List Int)) (out : List Int) (k : Nat), (∀ x ∈ s, x.length ≤ B) → (a ++ s).length = l.length → out.length ≤ a.length → (s.length + 1) * (2 * B + 10) < k →
    impl_LeadersBy.l0 k l out (a ++ s) (a ++ s).length a.length = some (outB l a.length s out)
  | [], a, out, k, _, _, _, hk => by
    obtain ⟨k, rfl⟩ : ∃ m, k = m + 1 := ⟨k - 1, by omega⟩
    simp only [impl_LeadersBy.l0, List.append_nil]
    rw [if_neg (by omega)]
    rfl
  | x :: s, a, out, k, hb, hn, ho, hk => by
    have hx := hb x List.mem_cons_self
    have hn2 := hn
    rw [List.length_append, List.length_cons] at hn2
    rw [List.length_cons, Nat.add_mul, Nat.one_mul] at hk
    have hk2 : 2 * B + 10 ≤ (s.length + 1) * (2 * B + 10) := Nat.le_mul_of_pos_left _ (by omega)
    generalize hG : (s.length + 1) * (2 * B + 10) = G at hk hk2
    obtain ⟨k, rfl⟩ : ∃ m, k = m + 3 := ⟨k - 3, by omega⟩
    rw [show k + 3 = (k + 2) + 1 from rfl]
    simp only [impl_LeadersBy.l0, outB]
    rw [if_pos (len_mid a x s), if_pos (by omega), if_pos (len_mid a x s), rdL_mid, w64 (x := (l.length : Int) - 1) (by omega) (by omega), implR x (k + 2) (by omega) (by omega), okRow_eq]
    simp only [Option.bind_some]
    cases hr : ris x
    · rw [if_neg (by decide), Bool.false_and, if_neg (by decide)]
      rw [show k + 2 = (k + 1) + 1 from rfl]
      simp [impl_LeadersBy.j2]
    · rw [if_pos rfl, impl_allIn_eq x _ _ (k + 2) (by omega) (by omega)]
      simp only [Option.bind_some, Bool.true_and]
      cases hal : x.all fun x => decide (0 ≤ x ∧ x ≤ (l.length : Int) - 1)
      · rw [if_neg (by decide)]
        rw [show k + 2 = (k + 1) + 1 from rfl]
        simp [impl_LeadersBy.j2]
      · rw [if_pos rfl, show k + 2 = (k + 1) + 1 from rfl]
        simp only [impl_LeadersBy.j2, Bool.not_true, Bool.false_eq_true, if_false]
        rw [if_pos (by omega), if_pos (by omega)]
        have hin : ∀ y ∈ x, 0 ≤ y ∧ y ≤ (l.length : Int) - 1 := fun y hy => by simpa using List.all_eq_true.1 hal y hy
        have h1 := implS_l l hl out (a ++ x :: s) (a ++ x :: s).length a.length x [] [rd_T35 l a.length] (k + 1) hin (by rw [List.nil_append]; omega) (by simp) (by omega)
        rw [List.nil_append] at h1
        rw [show ([(⟨(rd_T35 l (a.length : Int)).f0, (rd_T35 l (a.length : Int)).f1, (rd_T35 l (a.length : Int)).f2⟩ : S35)] : List S35) = [rd_T35 l (a.length : Int)] from rfl]
        refine h1.trans ?_
        rw [impl_leaderB _ _ (by rw [List.length_append, List.length_map, List.length_singleton]; omega) (by
          intro z hz
          rcases List.mem_append.1 hz with hz | hz
          · rw [List.mem_singleton.1 hz]
            exact hid _ (rd_in l a.length (by omega))
          · obtain ⟨y, hy, rfl⟩ := List.mem_map.1 hz
            have := hin y hy
            rw [show y = ((y.toNat : Nat) : Int) by omega]
            exact hid _ (rd_in l y.toNat (by omega))) (by rw [List.length_append, List.length_map, List.length_singleton]; omega)]
        simp only [Option.bind_some]
        rw [if_pos (by omega), next_mid a x (by omega)]
        have h := implL_l B hB l hl hid s (a ++ [x]) (out ++ [who l a.length x]) (k + 1 - 1 - x.length) (fun y hy => hb y (List.mem_cons_of_mem _ hy)) (by rw [List.append_assoc, List.singleton_append]; exact hn) (by rw [List.length_append, List.length_append, List.length_singleton, List.length_singleton]; omega) (by rw [hG]; omega)
        rw [List.append_assoc a [x] s, List.singleton_append, len1 a x] at h
        rw [len1 a x]
        exact h
def lbR (l : List S35) (s : List (List Int)) : List Int × Bool := if goodB l = true ∧ s.length = l.length then outB l 0 s [] else ([], false)
theorem outB_len (l : List S35) : ∀ (s : List (List Int)) (i : Nat) (out : List Int), (outB l i s out).1.length ≤ out.length + s.length
  | [], i, out => by simp [outB]
  | x :: s, i, out => by
    unfold outB
    split
    · have := outB_len l s (i + 1) (out ++ [who l i x])
      rw [List.length_append, List.length_singleton] at this
      rw [List.length_cons]
      omega
    · simp
theorem spec_LB (l : List S35) (s : List (List Int)) (k : Nat) (hl : l.length ≤ 4611686018427387904) (hb : ∀ x ∈ s, x.length ≤ 1048576) (hk : l.length + s.length + 1048576 + 10 < k) : spec_LeadersBy.f k l s = some (lbR l s) := by
  unfold spec_LeadersBy.f lbR
  rw [spec_goodB l k hl (by omega)]
  simp only [Option.bind_some]
  cases hg : goodB l
  · rw [if_neg (by decide), if_neg (by simp)]
  · rw [if_pos rfl]
    by_cases e : s.length = l.length
    · rw [if_pos e, if_pos ⟨rfl, e⟩]
      have hl10 := (goodB_ok l hg).2.2
      have h := specL_l 1048576 (by omega) l hl10 s [] [] k hb e (Nat.le_refl _) (by omega)
      exact h
    · rw [if_neg e, if_neg (fun h => e h.2)]
theorem impl_LB (l : List S35) (s : List (List Int)) (k : Nat) (hl : l.length ≤ 4611686018427387904) (hb : ∀ x ∈ s, x.length ≤ 1048576) (hk : l.length + 11 * 2097162 + 10 < k) : impl_LeadersBy.f k l s = some (lbR l s) := by
  unfold impl_LeadersBy.f lbR
  rw [impl_goodB l k hl (by omega)]
  obtain ⟨k, rfl⟩ : ∃ m, k = m + 1 := ⟨k - 1, by omega⟩
  simp only [Option.bind_some, impl_LeadersBy.j0]
  cases hg : goodB l
  · rw [if_neg (by decide), if_pos trivial, if_neg (by simp)]
  · rw [if_pos rfl]
    by_cases e : s.length = l.length
    · rw [if_neg (by rw [e]; simp), if_pos ⟨rfl, e⟩]
      obtain ⟨hid, _, hl10⟩ := goodB_ok l hg
      have hm : (s.length + 1) * (2 * 1048576 + 10) ≤ 11 * 2097162 := Nat.mul_le_mul (by omega) (by omega)
      have h := implL_l 1048576 (Nat.le_refl _) l hl10 (fun x hx => (hid x hx).1.1) s [] [] k hb e (Nat.le_refl _) (by omega)
      exact h
    · rw [if_pos (by simp; omega), if_neg (fun h => e h.2)]

-- upfrom
/-- n, n + 1, .., in so many places. -/
def upFrom (m : Int) (n : Nat) : List Int := (List.range n).map fun i : Nat => m + i
theorem upFrom_len (m : Int) (n : Nat) : (upFrom m n).length = n := by simp [upFrom]
theorem rd_nat (l : List Int) (i : Nat) : rd l i = l.getD i 0 := by simp [rd]
theorem rd_upFrom (m : Int) (n i : Nat) (h : i < n) : rd (upFrom m n) i = m + i := by
  simp [rd, upFrom, h]

-- places(35)
theorem spec_places_l (n : Nat) (hn : n ≤ 10) (d : Nat) : ∀ (k i : Nat), i + d = n → d < k → spec_l4Places.l0 k (upFrom 0 i) n i = some (upFrom 0 n) := by
  induction d with
  | zero =>
    intro k i h hk
    obtain ⟨k, rfl⟩ : ∃ m, k = m + 1 := ⟨k - 1, by omega⟩
    simp only [spec_l4Places.l0]
    rw [if_neg (by omega)]
    obtain rfl : i = n := by omega
    rfl
  | succ d ih =>
    intro k i h hk
    obtain ⟨k, rfl⟩ : ∃ m, k = m + 1 := ⟨k - 1, by omega⟩
    simp only [spec_l4Places.l0]
    rw [if_pos (by omega), if_pos (by rw [upFrom_len]; omega), wi _ (by omega)]
    have e : upFrom 0 i ++ [(i : Int)] = upFrom 0 (i + 1) := by simp [upFrom, List.range_succ]
    rw [e]
    exact ih k (i + 1) (by omega) (by omega)
theorem spec_places (l : List S35) (k : Nat) (hn : l.length ≤ 10) (hk : l.length < k) : spec_l4Places.f k l = some (upFrom 0 l.length) := by
  have h := spec_places_l l.length hn l.length k 0 (by omega) hk
  exact h
theorem map_places (l : List S35) : (upFrom 0 l.length).map (fun x => rd_T35 l x) = l := by
  apply List.ext_getElem
  · simp [upFrom]
  · intro i h1 h2
    simp only [upFrom, List.getElem_map, List.getElem_range, Int.zero_add]
    exact rd_T35_at l i h2
theorem spec_lead_all (l : List S35) (k : Nat) (hn : l.length ≤ 10) (hk : l.length < k) : spec_l4Leader.f k l (upFrom 0 l.length) = some (leadId (lead none l)) := by
  have h := spec_leaderB l (upFrom 0 l.length) k (by rw [upFrom_len]; omega) (by
    intro x hx
    simp only [upFrom, List.mem_map, List.mem_range] at hx
    obtain ⟨i, hi, rfl⟩ := hx
    omega) (by rw [upFrom_len]; omega)
  rw [map_places] at h
  exact h
theorem lead_pos : ∀ (l : List S35) (o : Option S35), (∀ x ∈ l, 1 ≤ x.f0) → (∀ x, o = some x → 1 ≤ x.f0) → 0 ≤ leadId (lead o l)
  | [], none, _, _ => by simp [lead, leadId]
  | [], some b, _, ho => by have := ho b rfl; simp [lead, leadId]; omega
  | x :: l, none, h, _ => by
    simp only [lead]
    refine lead_pos l _ (fun y hy => h y (List.mem_cons_of_mem _ hy)) (fun y hy => ?_)
    split at hy
    · rw [← Option.some.inj hy]
      exact h x List.mem_cons_self
    · cases hy
  | x :: l, some b, h, ho => by
    simp only [lead]
    refine lead_pos l _ (fun y hy => h y (List.mem_cons_of_mem _ hy)) (fun y hy => ?_)
    split at hy
    · rw [← Option.some.inj hy]
      exact h x List.mem_cons_self
    · rw [← Option.some.inj hy]
      exact ho b rfl
/-- What LeaderOf tells. -/
def leaderR (l : List S35) : Int × Bool := if goodB l = true ∧ ¬ leadId (lead none l) = 0 then (leadId (lead none l), true) else (0, false)
theorem spec_LeaderOf_f (l : List S35) (k : Nat) (hn : l.length ≤ 4611686018427387904) (hk : l.length + 1 < k) : spec_LeaderOf.f k l = some (leaderR l) := by
  unfold spec_LeaderOf.f leaderR
  obtain ⟨k, rfl⟩ : ∃ m, k = m + 1 := ⟨k - 1, by omega⟩
  rw [spec_goodB l _ hn (by omega)]
  simp only [Option.bind_some]
  cases hg : goodB l
  · rw [if_neg (by decide), if_neg (by simp)]
    simp [spec_LeaderOf.j0]
  · have h10 := (goodB_ok l hg).2.2
    rw [if_pos rfl, spec_places l _ h10 (by omega)]
    simp only [Option.bind_some]
    rw [spec_lead_all l _ h10 (by omega)]
    simp only [Option.bind_some, spec_LeaderOf.j0]
    by_cases hz : leadId (lead none l) = 0
    · rw [if_pos (by simp [hz]), if_neg (by simp [hz])]
    · rw [if_neg (by simp [hz]), if_pos (by simp [hz]), spec_places l _ h10 (by omega)]
      simp only [Option.bind_some]
      rw [spec_lead_all l _ h10 (by omega)]
      rfl
theorem impl_LeaderOf_f (l : List S35) (k : Nat) (hn : l.length ≤ 4611686018427387904) (hk : l.length + 1 < k) : impl_LeaderOf.f k l = some (leaderR l) := by
  unfold impl_LeaderOf.f leaderR
  rw [impl_goodB l _ hn (by omega)]
  simp only [Option.bind_some]
  cases hg : goodB l
  · rw [if_neg (by decide), if_neg (by simp)]
  · have hok := (goodB_ok l hg).1
    have hp := lead_pos l none (fun x hx => (hok x hx).1.1) (fun x hx => by cases hx)
    rw [if_pos rfl, impl_leaderB l _ hn (fun x hx => (hok x hx).1.1) (by omega)]
    simp only [Option.bind_some]
    by_cases hz : leadId (lead none l) = 0
    · rw [if_neg (by simp [hz]), hz]
      rfl
    · rw [if_pos (by simp [hz]), decide_eq_true (by omega)]

-- draws
theorem wraps_u64 (n : Int) (h₀ : 0 ≤ n) (h₁ : n < 2 ^ 24) : IntKind.u64.wrap n = n := by
  have h : n < 16777216 := h₁
  rw [IntKind.wrap_u64]
  omega
theorem letterOf (y : Int) : 0 ≤ wrap64 (Go.bits .and .u64 (IntKind.u64.wrap y / 1099511627776) 255) ∧ wrap64 (Go.bits .and .u64 (IntKind.u64.wrap y / 1099511627776) 255) ≤ 255 := by
  have hw := IntKind.wrap_u64 y
  have e : Go.bits .and .u64 (IntKind.u64.wrap y / 1099511627776) 255 = (IntKind.u64.wrap y / 1099511627776) % 256 :=
    bits_mask .u64 24 (by decide) wraps_u64 8 (by decide) _ (by omega) (by show _ < (16777216 : Int); omega)
  rw [e, w64 (by omega) (by omega)]
  omega
/-- The bytes that a drawer reads. -/
def Drawn (l : List Int) : Prop := (∀ x ∈ l, 0 ≤ x ∧ x ≤ 255) ∧ l.length ≤ 1125899906842624
theorem draw_next (l : List Int) (hl : Drawn l) (p st : Int) (h0 : 0 ≤ p) (h1 : p ≤ 1125899906842624) : ∃ v q, spec_l1Cur_next.f l p st = some (v, p + 1, q) ∧ 0 ≤ v ∧ v ≤ 255 := by
  obtain ⟨hl, hn⟩ := hl
  unfold spec_l1Cur_next.f
  rw [w64 (x := p + 1) (by omega) (by omega)]
  by_cases h : p < (l.length : Int)
  · have hm := hl _ (rd_mem l p.toNat (by omega))
    rw [Int.toNat_of_nonneg h0] at hm
    rw [if_pos h, if_pos h0, if_pos (by omega), w64 (x := rd l p) (by omega) (by omega)]
    exact ⟨_, _, rfl, hm⟩
  · rw [if_neg h, if_neg (by omega)]
    exact ⟨_, _, rfl, letterOf _⟩
theorem draw_pick (l : List Int) (hl : Drawn l) (p st n : Int) (h0 : 0 ≤ p) (h1 : p ≤ 1000000000000) (hn : 1 ≤ n) : ∃ v p' q, spec_l1Cur_pick.f l p st n = some (v, p', q) ∧ (0 ≤ v ∧ v < n) ∧ p ≤ p' ∧ p' ≤ p + 2 := by
  unfold spec_l1Cur_pick.f
  by_cases h : n ≤ 1
  · rw [if_pos h]
    exact ⟨_, _, _, rfl, by omega, by omega, by omega⟩
  · obtain ⟨a, q, e, ha⟩ := draw_next l hl p st h0 (by omega)
    rw [if_neg h, e]
    simp only [Option.bind_some]
    by_cases h2 : n > 200
    · obtain ⟨b, q2, e2, hb⟩ := draw_next l hl (p + 1) q (by omega) (by omega)
      rw [if_pos h2, e2]
      simp only [Option.bind_some]
      rw [if_neg (by omega), w64 (x := a * 256) (by omega) (by omega), w64 (by omega) (by omega), tm (by omega)]
      exact ⟨_, _, _, rfl, ⟨Int.emod_nonneg _ (by omega), Int.emod_lt_of_pos _ (by omega)⟩, by omega, by omega⟩
    · rw [if_neg h2, if_neg (by omega), tm (by omega)]
      exact ⟨_, _, _, rfl, ⟨Int.emod_nonneg _ (by omega), Int.emod_lt_of_pos _ (by omega)⟩, by omega, by omega⟩
theorem draw_among (l : List Int) (hl : Drawn l) (p st : Int) (m : List Int) (h0 : 0 ≤ p) (h1 : p ≤ 1000000000000) (hm : 1 ≤ m.length) : ∃ v p' q, spec_l1Cur_among.f l p st m = some (v, p', q) ∧ v ∈ m ∧ p ≤ p' ∧ p' ≤ p + 2 := by
  obtain ⟨v, p', q, e, hv, hp⟩ := draw_pick l hl p st (m.length : Int) h0 h1 (by omega)
  unfold spec_l1Cur_among.f
  rw [e]
  simp only [Option.bind_some]
  rw [if_pos hv.1, if_pos hv.2]
  refine ⟨_, _, _, rfl, ?_, hp⟩
  have := rd_mem m v.toNat (by omega)
  rwa [Int.toNat_of_nonneg hv.1] at this

-- drawone
theorem draw_one (l : List Int) (hl : Drawn l) (p st n : Int) (h0 : 0 ≤ p) (h1 : p ≤ 1000000000000) (hn : 1 ≤ n) : ∃ b p' q, spec_l1Cur_one.f l p st n = some (b, p', q) ∧ p ≤ p' ∧ p' ≤ p + 2 := by
  obtain ⟨v, p', q, e, _, hp⟩ := draw_pick l hl p st n h0 h1 hn
  unfold spec_l1Cur_one.f
  rw [e]
  exact ⟨_, _, _, rfl, hp⟩

-- drawbridges(35)
theorem draw_bridges2 (l : List Int) (hl : Drawn l) (x : List S35) (hx : x.length ≤ 11) (o : Bool) (ho : o = true → 0 < x.length) (p st : Int) (h0 : 0 ≤ p) (h1 : p ≤ 100000) :
    ∃ r p' q, (∀ k, spec_l1Cur_bridges.j2 (k + 1) x o l p st = some (r, p', q)) ∧ r.length ≤ 11 ∧ p ≤ p' ∧ p' ≤ p + 4 := by
  cases o
  · refine ⟨x, p, st, fun k => ?_, hx, by omega, by omega⟩
    rw [spec_l1Cur_bridges.j2, if_neg (by decide)]
  · obtain ⟨a, p1, q1, e1, _, hp1⟩ := draw_among l hl p st [0, 1, 1000, 1001] h0 (by omega) (by simp)
    obtain ⟨b, p2, q2, e2, _, hp2⟩ := draw_among l hl p1 q1 [(-1), 0, 127, 128] (by omega) (by omega) (by simp)
    have hx0 := ho rfl
    refine ⟨x.set (0 : Int).toNat (⟨a, b, true⟩ : S35), p2, q2, fun k => ?_, by rw [List.length_set]; exact hx, by omega, by omega⟩
    rw [spec_l1Cur_bridges.j2, if_pos rfl, e1, Option.bind_some, e2, Option.bind_some, if_pos (by omega)]
theorem draw_bridges_l (l : List Int) (hl : Drawn l) (d : Nat) : ∀ (x : List S35) (id p st : Int), x.length + d ≤ 11 → (0 ≤ id ∧ id ≤ 20 * (x.length : Int)) → 0 ≤ p → p + 10 * d ≤ 50000 →
    ∃ r p' q, (∀ k, d + 3 < k → spec_l1Cur_bridges.l0 k x id d l p st = some (r, p', q)) ∧ r.length ≤ 11 ∧ p ≤ p' ∧ p' ≤ p + 10 * d + 10 := by
  induction d with
  | zero =>
    intro x id p st hx hid h0 h1
    by_cases hz : (x.length : Int) > 0
    · obtain ⟨o, p1, q1, e1, hp1⟩ := draw_one l hl p st 20 h0 (by omega) (by omega)
      obtain ⟨r, p2, q2, e2, hr, hp2⟩ := draw_bridges2 l hl x (by omega) o (fun _ => by omega) p1 q1 (by omega) (by omega)
      refine ⟨r, p2, q2, fun k hk => ?_, hr, by omega, by omega⟩
      obtain ⟨k, rfl⟩ : ∃ m, k = m + 2 := ⟨k - 2, by omega⟩
      rw [show k + 2 = (k + 1) + 1 from rfl, spec_l1Cur_bridges.l0, if_neg (by omega), if_pos hz, e1, Option.bind_some]
      exact e2 k
    · obtain ⟨r, p2, q2, e2, hr, hp2⟩ := draw_bridges2 l hl x (by omega) false (fun h => absurd h (by decide)) p st (by omega) (by omega)
      refine ⟨r, p2, q2, fun k hk => ?_, hr, by omega, by omega⟩
      obtain ⟨k, rfl⟩ : ∃ m, k = m + 2 := ⟨k - 2, by omega⟩
      rw [show k + 2 = (k + 1) + 1 from rfl, spec_l1Cur_bridges.l0, if_neg (by omega), if_neg hz]
      exact e2 k
  | succ d ih =>
    intro x id p st hx hid h0 h1
    obtain ⟨a, p1, q1, e1, ha, hp1⟩ := draw_pick l hl p st 20 h0 (by omega) (by omega)
    obtain ⟨b, p2, q2, e2, hb, hp2⟩ := draw_pick l hl p1 q1 4 (by omega) (by omega) (by omega)
    obtain ⟨o, p3, q3, e3, hp3⟩ := draw_one l hl p2 q2 4 (by omega) (by omega) (by omega)
    have hw : wrap64 (id + wrap64 (1 + a)) = id + (1 + a) := by rw [w64 (x := 1 + a) (by omega) (by omega), w64 (by omega) (by omega)]
    have hw2 : wrap64 (((d + 1 : Nat) : Int) - 1) = (d : Int) := by rw [w64 (by omega) (by omega)]; omega
    have hl2 : (x ++ [(⟨id + (1 + a), b, !o⟩ : S35)]).length = x.length + 1 := by rw [List.length_append, List.length_singleton]
    obtain ⟨r, p4, q4, e4, hr, hp4⟩ := ih (x ++ [⟨id + (1 + a), b, !o⟩]) (id + (1 + a)) p3 q3 (by omega) (by omega) (by omega) (by omega)
    refine ⟨r, p4, q4, fun k hk => ?_, hr, by omega, by omega⟩
    obtain ⟨k, rfl⟩ : ∃ m, k = m + 1 := ⟨k - 1, by omega⟩
    rw [spec_l1Cur_bridges.l0, if_pos (by omega), e1, Option.bind_some, e2, Option.bind_some, e3, Option.bind_some, if_pos (by omega)]
    dsimp only
    rw [hw, hw2]
    exact e4 k (by omega)
theorem draw_bridges (l : List Int) (hl : Drawn l) : ∃ (r : List S35) (p' q : Int), (∀ k, 30 < k → spec_l1Cur_bridges.f k l 0 0 = some (r, p', q)) ∧ r.length ≤ 11 ∧ 0 ≤ p' ∧ p' ≤ 1000 := by
  obtain ⟨n, p1, q1, e1, hn, hp1⟩ := draw_pick l hl 0 0 7 (by omega) (by omega) (by omega)
  obtain ⟨o, p2, q2, e2, hp2⟩ := draw_one l hl p1 q1 20 (by omega) (by omega) (by omega)
  cases o
  · obtain ⟨r, p3, q3, e3, hr, hp3⟩ := draw_bridges_l l hl (1 + n).toNat [] 0 p2 q2 (by simp; omega) (by simp) (by omega) (by omega)
    have hc : ((1 + n).toNat : Int) = 1 + n := Int.toNat_of_nonneg (by omega)
    have hw : wrap64 (1 + n) = 1 + n := w64 (by omega) (by omega)
    rw [hc] at e3
    refine ⟨r, p3, q3, fun k hk => ?_, hr, by omega, by omega⟩
    obtain ⟨k, rfl⟩ : ∃ m, k = m + 1 := ⟨k - 1, by omega⟩
    unfold spec_l1Cur_bridges.f
    rw [e1, Option.bind_some, e2, Option.bind_some]
    dsimp only
    rw [if_neg (by decide), hw, spec_l1Cur_bridges.j0]
    exact e3 k (by omega)
  · obtain ⟨m, p3, q3, e3, hm, hp3⟩ := draw_among l hl p2 q2 [0, 10, 11] (by omega) (by omega) (by simp)
    have hm2 : 0 ≤ m ∧ m ≤ 11 := by
      simp only [List.mem_cons, List.not_mem_nil, or_false] at hm
      omega
    obtain ⟨r, p4, q4, e4, hr, hp4⟩ := draw_bridges_l l hl m.toNat [] 0 p3 q3 (by simp; omega) (by simp) (by omega) (by omega)
    have hc : (m.toNat : Int) = m := Int.toNat_of_nonneg (by omega)
    rw [hc] at e4
    refine ⟨r, p4, q4, fun k hk => ?_, hr, by omega, by omega⟩
    obtain ⟨k, rfl⟩ : ∃ m, k = m + 1 := ⟨k - 1, by omega⟩
    unfold spec_l1Cur_bridges.f
    rw [e1, Option.bind_some, e2, Option.bind_some]
    dsimp only
    rw [if_pos rfl, e3, Option.bind_some, spec_l1Cur_bridges.j0]
    exact e4 k (by omega)

theorem sameI_l (a : List Int) (hn : a.length ≤ 1000000) (d : Nat) : ∀ (k i : Nat), i + d = a.length → d < k → laws_sameInts.l0 k a a a.length i = some true := by
  induction d with
  | zero =>
    intro k i h hk
    obtain ⟨k, rfl⟩ : ∃ m, k = m + 1 := ⟨k - 1, by omega⟩
    rw [laws_sameInts.l0, if_neg (by omega)]
  | succ d ih =>
    intro k i h hk
    obtain ⟨k, rfl⟩ : ∃ m, k = m + 1 := ⟨k - 1, by omega⟩
    rw [laws_sameInts.l0, if_pos (by omega), if_pos (by omega), if_pos (by omega), if_pos (by omega), if_pos rfl, wi i (by omega)]
    exact ih k (i + 1) (by omega) (by omega)
theorem sameI (a : List Int) (k : Nat) (hn : a.length ≤ 1000000) (hk : a.length < k) : laws_sameInts.f k a a = some true := by
  unfold laws_sameInts.f
  rw [if_pos rfl]
  exact sameI_l a hn a.length k 0 (by omega) hk
/-- What Beats tells. -/
def beatI (a b : S35) : Bool × Bool := if okB a = true ∧ okB b = true ∧ a.f0 ≠ b.f0 then (btB a b, true) else (false, false)
theorem beat_spec (a b : S35) : spec_Beats.f a.f0 a.f1 a.f2 b.f0 b.f1 b.f2 = some (beatI a b) := by
  unfold spec_Beats.f beatI
  rw [okB_eq, okB_eq, spec_beatsB]
  cases okB a
  · rfl
  · cases okB b
    · rfl
    · by_cases h : a.f0 = b.f0
      · simp [h]
      · simp [h]
theorem beat_impl (a b : S35) : impl_Beats.f a.f0 a.f1 a.f2 b.f0 b.f1 b.f2 = some (beatI a b) := by
  have h : impl_Beats.f a.f0 a.f1 a.f2 b.f0 b.f1 b.f2 = spec_Beats.f a.f0 a.f1 a.f2 b.f0 b.f1 b.f2 := rfl
  rw [h, beat_spec]
theorem bt_one (a b : S35) (h : a.f0 ≠ b.f0) : (btB a b != btB b a) = true := by
  cases h1 : btB a b
  · cases h2 : btB b a
    · exact absurd (bt_tot a b h1 h2) h
    · rfl
  · rw [bt_asym a b h1]
    rfl
-- the draws
theorem draw_sees1 (l : List Int) (hl : Drawn l) (x5 : List S35) (x6 : List (List Int)) (x15 x16 : Int) (N : Nat) (hN : N ≤ 11) (h6 : x6.length ≤ 11) (d : Nat) : ∀ (y : List Int) (i : Nat) (p st : Int), i + d = N → y.length ≤ i → 0 ≤ p → p + 2 * d ≤ 1000000 →
    ∃ r p' q, (∀ k, d < k → spec_DrawLeadersBy.l1 k x5 x6 y x15 x16 N i l p st = spec_DrawLeadersBy.l0 (k - 1 - d) x5 (x6 ++ [r]) x15 (wrap64 (x16 + 1)) l p' q) ∧ r.length ≤ N ∧ p ≤ p' ∧ p' ≤ p + 2 * d := by
  induction d with
  | zero =>
    intro y i p st hi hy h0 h1
    refine ⟨y, p, st, fun k hk => ?_, by omega, by omega, by omega⟩
    obtain ⟨k, rfl⟩ : ∃ m, k = m + 1 := ⟨k - 1, by omega⟩
    rw [spec_DrawLeadersBy.l1, if_neg (by omega), if_pos (by omega)]
    rfl
  | succ d ih =>
    intro y i p st hi hy h0 h1
    obtain ⟨o, p1, q1, e1, hp1⟩ := draw_one l hl p st 2 h0 (by omega) (by omega)
    cases o
    · obtain ⟨r, p2, q2, e2, hr, hp2⟩ := ih y (i + 1) p1 q1 (by omega) (by omega) (by omega) (by omega)
      refine ⟨r, p2, q2, fun k hk => ?_, hr, by omega, by omega⟩
      obtain ⟨k, rfl⟩ : ∃ m, k = m + 1 := ⟨k - 1, by omega⟩
      rw [spec_DrawLeadersBy.l1, if_pos (by omega), e1, Option.bind_some]
      dsimp only
      rw [if_neg (by decide), wi i (by omega), e2 k (by omega), show k + 1 - 1 - (d + 1) = k - 1 - d by omega]
    · obtain ⟨r, p2, q2, e2, hr, hp2⟩ := ih (y ++ [(i : Int)]) (i + 1) p1 q1 (by omega) (by rw [List.length_append, List.length_singleton]; omega) (by omega) (by omega)
      refine ⟨r, p2, q2, fun k hk => ?_, hr, by omega, by omega⟩
      obtain ⟨k, rfl⟩ : ∃ m, k = m + 1 := ⟨k - 1, by omega⟩
      rw [spec_DrawLeadersBy.l1, if_pos (by omega), e1, Option.bind_some]
      dsimp only
      rw [if_pos rfl, if_pos (by omega), wi i (by omega), e2 k (by omega), show k + 1 - 1 - (d + 1) = k - 1 - d by omega]
theorem draw_sees (l : List Int) (hl : Drawn l) (x5 : List S35) (h5 : x5.length ≤ 11) (d : Nat) : ∀ (x6 : List (List Int)) (i : Nat) (p st : Int), i + d = x5.length → x6.length = i → (∀ r ∈ x6, r.length ≤ 11) → 0 ≤ p → p + 30 * d ≤ 100000 →
    ∃ s, (∀ k, 20 * d + 20 < k → spec_DrawLeadersBy.l0 k x5 x6 x5.length i l p st = some (x5, s)) ∧ s.length ≤ 11 ∧ ∀ r ∈ s, r.length ≤ 12 := by
  induction d with
  | zero =>
    intro x6 i p st hi h6 hr h0 h1
    have hr2 : ∀ r ∈ x6, r.length ≤ 12 := fun r h => by have := hr r h; omega
    by_cases hz : (x6.length : Int) > 0
    · obtain ⟨o, p1, q1, e1, hp1⟩ := draw_one l hl p st 12 h0 (by omega) (by omega)
      cases o
      · refine ⟨x6, fun k hk => ?_, by omega, hr2⟩
        obtain ⟨k, rfl⟩ : ∃ m, k = m + 1 := ⟨k - 1, by omega⟩
        rw [spec_DrawLeadersBy.l0, if_neg (by omega), if_pos hz, e1, Option.bind_some]
        dsimp only
        rw [if_neg (by decide)]
      · obtain ⟨v, p2, q2, e2, hv, hp2⟩ := draw_pick l hl p1 q1 12 (by omega) (by omega) (by omega)
        have hlen : (rd_L4 x6 0).length ≤ 11 := by
          have e : rd_L4 x6 ((0 : Nat) : Int) = x6[0] := rdL_at x6 0 (by omega)
          have e2 : rd_L4 x6 0 = x6[0] := e
          rw [e2]
          exact hr _ (List.getElem_mem _)
        refine ⟨x6.set (0 : Int).toNat ((rd_L4 x6 0) ++ [v]), fun k hk => ?_, by rw [List.length_set]; omega, fun r h => ?_⟩
        · obtain ⟨k, rfl⟩ : ∃ m, k = m + 1 := ⟨k - 1, by omega⟩
          rw [spec_DrawLeadersBy.l0, if_neg (by omega), if_pos hz, e1, Option.bind_some, if_pos rfl, if_pos (by omega), e2, Option.bind_some, if_pos (by omega)]
        · rcases List.mem_or_eq_of_mem_set h with h | rfl
          · exact hr2 r h
          · rw [List.length_append, List.length_singleton]
            omega
    · refine ⟨x6, fun k hk => ?_, by omega, hr2⟩
      obtain ⟨k, rfl⟩ : ∃ m, k = m + 1 := ⟨k - 1, by omega⟩
      rw [spec_DrawLeadersBy.l0, if_neg (by omega), if_neg hz]
  | succ d ih =>
    intro x6 i p st hi h6 hr h0 h1
    obtain ⟨r, p1, q1, e1, hrl, hp1⟩ := draw_sees1 l hl x5 x6 x5.length i x5.length h5 (by omega) x5.length [] 0 p st (by omega) (by simp) h0 (by omega)
    obtain ⟨s, e2, hs⟩ := ih (x6 ++ [r]) (i + 1) p1 q1 (by omega) (by rw [List.length_append, List.length_singleton]; omega) (fun z hz => by
      rcases List.mem_append.1 hz with h | h
      · exact hr z h
      · rw [List.mem_singleton.1 h]; omega) (by omega) (by omega)
    refine ⟨s, fun k hk => ?_, hs⟩
    obtain ⟨k, rfl⟩ : ∃ m, k = m + 1 := ⟨k - 1, by omega⟩
    have e3 : spec_DrawLeadersBy.l1 k x5 x6 [] x5.length i x5.length 0 l p st = _ := e1 k (by omega)
    rw [spec_DrawLeadersBy.l0, if_pos (by omega), e3, wi i (by omega)]
    exact e2 _ (by omega)
theorem draw_leaders (l : List Int) (hl : Drawn l) : ∃ (b : List S35) (s : List (List Int)), (∀ k, 500 < k → spec_DrawLeadersBy.f k l = some (b, s)) ∧ b.length ≤ 11 ∧ s.length ≤ 11 ∧ ∀ r ∈ s, r.length ≤ 12 := by
  obtain ⟨b, p1, q1, e1, hn, hp1⟩ := draw_bridges l hl
  obtain ⟨s, e2, hs⟩ := draw_sees l hl b hn b.length [] 0 p1 q1 (by omega) rfl (fun r h => absurd h List.not_mem_nil) (by omega) (by omega)
  refine ⟨b, s, fun k hk => ?_, hn, hs⟩
  unfold spec_DrawLeadersBy.f
  rw [e1 k (by omega), Option.bind_some]
  exact e2 k (by omega)
theorem draw_beats (l : List Int) (hl : Drawn l) : ∃ a b : S35, ∀ k, 500 < k → spec_DrawBeats.f k l = some (a.f0, a.f1, a.f2, b.f0, b.f1, b.f2) := by
  obtain ⟨b, p1, q1, e1, hn, hp1⟩ := draw_bridges l hl
  by_cases h2 : (b.length : Int) < 2
  · refine ⟨⟨1, 0, false⟩, ⟨1, 0, false⟩, fun k hk => ?_⟩
    unfold spec_DrawBeats.f
    rw [e1 k (by omega), Option.bind_some, if_pos h2]
  · obtain ⟨u, p2, q2, e2, hu, hp2⟩ := draw_pick l hl p1 q1 (b.length : Int) (by omega) (by omega) (by omega)
    obtain ⟨v, p3, q3, e3, hv, hp3⟩ := draw_pick l hl p2 q2 (b.length : Int) (by omega) (by omega) (by omega)
    refine ⟨rd_T35 b u, rd_T35 b v, fun k hk => ?_⟩
    unfold spec_DrawBeats.f
    rw [e1 k (by omega), Option.bind_some, if_neg h2, e2, Option.bind_some, if_pos hu.1, if_pos hu.2, e3, Option.bind_some, if_pos hv.1, if_pos hv.2]
-- the law's parts
theorem last_part (l1 : List Int) (hl : Drawn l1) (k : Nat) (hk : 600 < k) : laws_FnLeaders.j6 k l1 = some true := by
  obtain ⟨k, rfl⟩ : ∃ m, k = m + 2 := ⟨k - 2, by omega⟩
  obtain ⟨a, b, e⟩ := draw_beats l1 hl
  rw [show k + 2 = (k + 1) + 1 from rfl, laws_FnLeaders.j6, e _ (by omega), Option.bind_some]
  dsimp only
  rw [beat_impl, beat_spec, Option.bind_some, Option.bind_some, bne_self_eq_false, if_neg (by decide), bne_self_eq_false, laws_FnLeaders.j7, if_neg (by decide)]
  by_cases h : okB a = true ∧ okB b = true ∧ a.f0 ≠ b.f0
  · have e1 : beatI a b = (btB a b, true) := by
      unfold beatI
      rw [if_pos h]
    have e2 : beatI b a = (btB b a, true) := by
      unfold beatI
      rw [if_pos ⟨h.2.1, h.1, h.2.2.symm⟩]
    rw [e1, if_pos rfl, beat_impl, e2, Option.bind_some, if_pos rfl, bt_one a b h.2.2]
  · have e1 : beatI a b = (false, false) := by
      unfold beatI
      rw [if_neg h]
    rw [e1, if_neg (by decide)]
theorem upB_one : ∀ (l : List S35) (p : Int), upB p l = true → ∀ x ∈ l, ∀ y ∈ l, x.f0 = y.f0 → x = y
  | [], _, _, x, hx, _, _, _ => absurd hx List.not_mem_nil
  | z :: l, p, h, x, hx, y, hy, e => by
    rw [upB, Bool.and_eq_true, Bool.and_eq_true] at h
    have hz := upB_ok l z.f0 h.2.2
    rcases List.mem_cons.1 hx with hx1 | hx1
    · rcases List.mem_cons.1 hy with hy1 | hy1
      · rw [hx1, hy1]
      · have := (hz y hy1).2
        rw [hx1] at e
        omega
    · rcases List.mem_cons.1 hy with hy1 | hy1
      · have := (hz x hx1).2
        rw [hy1] at e
        omega
      · exact upB_one l z.f0 h.2.2 x hx1 y hy1 e
theorem beats_l (l1 : List Int) (hl : Drawn l1) (l : List S35) (c : List Int) (id : Int) (t : S35) (hn : l.length ≤ 10) (hc : c.length = l.length) (hcid : ∀ i : Nat, i < c.length → rd c i = id) (h : ∀ x ∈ l, x.f2 = true → x.f0 ≠ id → beatI x t = (false, true)) (d : Nat) :
    ∀ (i k : Nat), i + d = l.length → 2 * d + 700 < k → laws_FnLeaders.l3 k l1 id c l l.length i t.f0 t.f1 t.f2 = some true := by
  induction d with
  | zero =>
    intro i k hi hk
    obtain ⟨k, rfl⟩ : ∃ m, k = m + 1 := ⟨k - 1, by omega⟩
    rw [laws_FnLeaders.l3, if_neg (by omega)]
    exact last_part l1 hl k (by omega)
  | succ d ih =>
    intro i k hi hk
    obtain ⟨k, rfl⟩ : ∃ m, k = m + 2 := ⟨k - 2, by omega⟩
    have hm : rd_T35 l i ∈ l := by
      rw [rd_T35_at l i (by omega)]
      exact List.getElem_mem _
    have hx := h _ hm
    have next := ih (i + 1) k (by omega) (by omega)
    rw [show k + 2 = (k + 1) + 1 from rfl, laws_FnLeaders.l3, if_pos (by omega), if_pos (by omega), if_pos (by omega), if_pos (by omega), if_pos (hcid i (by omega))]
    generalize rd_T35 l i = x at hx
    cases hu : x.f2
    · rw [if_neg (by decide), laws_FnLeaders.j5, if_neg (by decide), wi i (by omega)]
      exact next
    · rw [if_pos rfl, laws_FnLeaders.j5]
      by_cases e : x.f0 = id
      · rw [show (x.f0 != id) = false by simpa using e, if_neg (by decide), wi i (by omega)]
        exact next
      · have hb := beat_impl x t
        rw [hx hu e, hu] at hb
        rw [show (x.f0 != id) = true by simpa using e, if_pos rfl, hb, Option.bind_some, if_pos rfl, if_neg (by decide), wi i (by omega)]
        exact next
theorem top_l (l1 : List Int) (l : List S35) (c : List Int) (id : Int) (hn : l.length ≤ 10) (R : S35 → Prop) (hR : ∀ x ∈ l, x.f0 = id → R x) (K : Nat) (hK : ∀ t, R t → ∀ k, K ≤ k → laws_FnLeaders.l3 k l1 id c l l.length 0 t.f0 t.f1 t.f2 = some true) (d : Nat) :
    ∀ (i k : Nat) (t : S35), i + d = l.length → d + K + 5 < k → (R t ∨ ∃ x ∈ l.drop i, x.f0 = id) → laws_FnLeaders.l2 k l1 l id c l l.length i t.f0 t.f1 t.f2 = some true := by
  induction d with
  | zero =>
    intro i k t hi hk h
    obtain ⟨k, rfl⟩ : ∃ m, k = m + 1 := ⟨k - 1, by omega⟩
    rw [laws_FnLeaders.l2, if_neg (by omega)]
    rcases h with h | ⟨x, hx, _⟩
    · exact hK t h k (by omega)
    · rw [List.drop_of_length_le (by omega)] at hx
      exact absurd hx List.not_mem_nil
  | succ d ih =>
    intro i k t hi hk h
    obtain ⟨k, rfl⟩ : ∃ m, k = m + 1 := ⟨k - 1, by omega⟩
    have hm : rd_T35 l i ∈ l := by
      rw [rd_T35_at l i (by omega)]
      exact List.getElem_mem _
    rw [drop_B l i (by omega)] at h
    rw [laws_FnLeaders.l2, if_pos (by omega), if_pos (by omega), if_pos (by omega), wi i (by omega)]
    by_cases e : (rd_T35 l i).f0 = id
    · rw [if_pos e]
      exact ih (i + 1) k (rd_T35 l i) (by omega) (by omega) (.inl (hR _ hm e))
    · rw [if_neg e]
      refine ih (i + 1) k t (by omega) (by omega) ?_
      rcases h with h | ⟨x, hx, hx2⟩
      · exact .inl h
      · rcases List.mem_cons.1 hx with rfl | hx
        · exact absurd hx2 e
        · exact .inr ⟨x, hx, hx2⟩
theorem okRow_up : ∀ (n m : Nat), adj ((m : Int) - 1) (upFrom m n) = true
  | 0, m => rfl
  | n + 1, m => by
    have e : upFrom m (n + 1) = (m : Int) :: upFrom ((m + 1 : Nat) : Int) n := by
      simp only [upFrom, List.range_succ_eq_map, List.map_cons, List.map_map]
      refine List.cons_eq_cons.2 ⟨by simp, List.map_congr_left fun x _ => ?_⟩
      show (m : Int) + ((x + 1 : Nat) : Int) = ((m + 1 : Nat) : Int) + (x : Int)
      omega
    rw [e, adj, decide_eq_true (by omega), Bool.true_and]
    have := okRow_up n (m + 1)
    rwa [show ((m + 1 : Nat) : Int) - 1 = (m : Int) by omega] at this
theorem ris_up (n : Nat) : ris (upFrom 0 n) = true := by
  have h := okRow_up n 0
  cases e : upFrom 0 n with
  | nil => rfl
  | cons p l =>
    have h2 : adj (((0 : Nat) : Int) - 1) (upFrom 0 n) = true := h
    rw [e, adj, Bool.and_eq_true] at h2
    exact h2.2
theorem up_in (n : Nat) : ∀ x ∈ upFrom 0 n, 0 ≤ x ∧ x ≤ (n : Int) - 1 := by
  intro x hx
  simp only [upFrom, List.mem_map, List.mem_range] at hx
  obtain ⟨i, hi, rfl⟩ := hx
  omega
theorem okRow_all (n : Nat) : okRow 0 ((n : Int) - 1) (upFrom 0 n) = true := by
  rw [okRow_eq, ris_up, Bool.true_and, List.all_eq_true]
  intro x hx
  exact decide_eq_true (up_in n x hx)
theorem who_all (l : List S35) (i : Nat) (hi : i < l.length) : who l i (upFrom 0 l.length) = leadId (lead none l) := by
  unfold who
  rw [map_places]
  refine lead_same _ _ fun x => ?_
  rw [List.mem_cons]
  constructor
  · rintro (rfl | h)
    · exact rd_in l i hi
    · exact h
  · exact .inr
theorem out_all (l : List S35) : ∀ (d i : Nat) (out : List Int), i + d = l.length → (∀ j : Nat, j < out.length → rd out j = leadId (lead none l)) → out.length = i →
    (outB l i (List.replicate d (upFrom 0 l.length)) out).2 = true ∧ (outB l i (List.replicate d (upFrom 0 l.length)) out).1.length = l.length ∧ ∀ j : Nat, j < l.length → rd (outB l i (List.replicate d (upFrom 0 l.length)) out).1 j = leadId (lead none l)
  | 0, i, out, hi, h, hl => by
    rw [List.replicate_zero, outB]
    exact ⟨rfl, by show out.length = l.length; omega, fun j hj => h j (by omega)⟩
  | d + 1, i, out, hi, h, hl => by
    rw [List.replicate_succ, outB, if_pos (okRow_all l.length), who_all l i (by omega)]
    refine out_all l d (i + 1) _ (by omega) (fun j hj => ?_) (by rw [List.length_append, List.length_singleton]; omega)
    rw [List.length_append, List.length_singleton] at hj
    by_cases e : j < out.length
    · have h1 := h j e
      unfold rd at h1 ⊢
      rw [Int.toNat_natCast, List.getD_eq_getElem?_getD] at h1 ⊢
      rw [List.getElem?_append_left e]
      exact h1
    · obtain rfl : j = out.length := by omega
      exact rd_midI out _ []
theorem rows_l (l1 : List Int) (l : List S35) (id : Int) (all : List Int) (hn : l.length ≤ 10) (ha : all.length ≤ 10) (d : Nat) : ∀ (i k : Nat) (rows : List (List Int)), i + d = l.length → rows.length = i → d < k →
    laws_FnLeaders.l1 k l1 l id all rows l.length i = laws_FnLeaders.l1 (k - d) l1 l id all (rows ++ List.replicate d all) l.length l.length := by
  induction d with
  | zero =>
    intro i k rows hi hr hk
    obtain rfl : i = l.length := by omega
    rw [List.replicate_zero, List.append_nil, Nat.sub_zero]
  | succ d ih =>
    intro i k rows hi hr hk
    obtain ⟨k, rfl⟩ : ∃ m, k = m + 1 := ⟨k - 1, by omega⟩
    have c1 : ([] : List Int).length + all.length < 17592186044416 := by rw [List.length_nil]; omega
    rw [laws_FnLeaders.l1, if_pos (by omega), Option.bind_some, if_pos c1, if_pos (by omega), wi i (by omega), List.nil_append, ih (i + 1) k (rows ++ [all]) (by omega) (by rw [List.length_append, List.length_singleton]; omega) (by omega), show k + 1 - (d + 1) = k - d by omega, List.append_assoc, List.singleton_append, List.replicate_succ]
theorem alls_l (l1 : List Int) (l : List S35) (id : Int) (hn : l.length ≤ 10) (d : Nat) : ∀ (i k : Nat), i + d = l.length → d < k →
    laws_FnLeaders.l0 k l1 l id (upFrom 0 i) l.length i = laws_FnLeaders.l1 (k - 1 - d) l1 l id (upFrom 0 l.length) [] l.length 0 := by
  induction d with
  | zero =>
    intro i k hi hk
    obtain ⟨k, rfl⟩ : ∃ m, k = m + 1 := ⟨k - 1, by omega⟩
    obtain rfl : i = l.length := by omega
    rw [laws_FnLeaders.l0, if_neg (by omega)]
    rfl
  | succ d ih =>
    intro i k hi hk
    obtain ⟨k, rfl⟩ : ∃ m, k = m + 1 := ⟨k - 1, by omega⟩
    have e : upFrom 0 i ++ [(i : Int)] = upFrom 0 (i + 1) := by simp [upFrom, List.range_succ]
    rw [laws_FnLeaders.l0, if_pos (by omega), if_pos (by rw [upFrom_len]; omega), e, wi i (by omega), ih (i + 1) k (by omega) (by omega), show k + 1 - 1 - (d + 1) = k - 1 - d by omega]
theorem all_part (l1 : List Int) (hl : Drawn l1) (l : List S35) (hg : goodB l = true) (hz : ¬ leadId (lead none l) = 0) (k : Nat) (hk : 25000000 < k) : laws_FnLeaders.l0 k l1 l (leadId (lead none l)) [] l.length 0 = some true := by
  obtain ⟨hid, h1, h10⟩ := goodB_ok l hg
  have hup : upB 0 l = true := by
    unfold goodB at hg
    rw [Bool.and_eq_true] at hg
    exact hg.1
  have e1 := alls_l l1 l (leadId (lead none l)) h10 l.length 0 k (by omega) (by omega)
  have e1' : laws_FnLeaders.l0 k l1 l (leadId (lead none l)) [] l.length 0 = _ := e1
  rw [e1']
  have e2 := rows_l l1 l (leadId (lead none l)) (upFrom 0 l.length) h10 (by rw [upFrom_len]; omega) l.length 0 (k - 1 - l.length) [] (by omega) rfl (by omega)
  have e2' : laws_FnLeaders.l1 (k - 1 - l.length) l1 l (leadId (lead none l)) (upFrom 0 l.length) [] l.length 0 = _ := e2
  rw [e2', List.nil_append]
  obtain ⟨k, hk2⟩ : ∃ m, k - 1 - l.length - l.length = m + 1 := ⟨k - 1 - l.length - l.length - 1, by omega⟩
  rw [hk2, laws_FnLeaders.l1, if_neg (by omega), impl_LB l _ k (by omega) (fun x hx => by rw [List.eq_of_mem_replicate hx, upFrom_len]; omega) (by omega), Option.bind_some]
  have e3 : lbR l (List.replicate l.length (upFrom 0 l.length)) = outB l 0 (List.replicate l.length (upFrom 0 l.length)) [] := by
    unfold lbR
    rw [if_pos ⟨hg, List.length_replicate⟩]
  obtain ⟨o1, o2, o3⟩ := out_all l l.length 0 [] (by omega) (fun j hj => absurd hj (by simp)) rfl
  rw [e3, o1, if_pos rfl, if_pos (by omega)]
  have hL := lead_is l none
  cases hlead : lead none l with
  | none => rw [hlead] at hz; exact absurd rfl hz
  | some b =>
    rw [hlead] at hL
    have hb : b ∈ l ∧ b.f2 = true := by
      rcases hL.1 with h | h
      · cases h
      · exact h
    have hbid : leadId (some b) = b.f0 := rfl
    have hbeat : ∀ x ∈ l, x.f2 = true → x.f0 ≠ b.f0 → beatI x b = (false, true) := by
      intro x hx hu hne
      have ox := (upB_ok l 0 hup x hx).1
      have ob := (upB_ok l 0 hup b hb.1).1
      unfold beatI
      rw [if_pos ⟨ox, ob, hne⟩, hL.2.1 x hx hu]
    rw [hlead] at o3
    have := top_l l1 l (outB l 0 (List.replicate l.length (upFrom 0 l.length)) []).1 b.f0 h10 (fun t => t = b) (fun x hx e => upB_one l 0 hup x hx b hb.1 e) 1000
      (fun t ht k hk => by
        have ht2 : t = b := ht
        subst ht2
        exact beats_l l1 hl l _ t.f0 t h10 o2 (fun i hi => o3 i (by omega)) hbeat l.length 0 k (by omega) (by omega)) l.length 0 k (rd_T35 l 0) (by omega) (by omega) (.inr ⟨b, hb.1, rfl⟩)
    exact this
theorem FnLeaders : laws_FnLeaders.PureS := by
  intro l m ⟨hl, hl2⟩ ⟨hm, hm2⟩
  have u8 (x : Int) (h : (Lit.int .u8 x).wf = true) : 0 ≤ x ∧ x ≤ 255 := by
    simp [Lit.wf, IntKind.min, IntKind.max, IntKind.signed, IntKind.bits] at h
    omega
  have dl : Drawn l := ⟨fun x hx => u8 x (hl2 x hx), by omega⟩
  have dm : Drawn m := ⟨fun x hx => u8 x (hm2 x hx), by omega⟩
  obtain ⟨b, s, e1, hb, hs, hr⟩ := draw_leaders l dl
  obtain ⟨Z, hZ⟩ : ∃ Z, Z = 30000000 := ⟨_, rfl⟩
  have hrow : ∀ x ∈ s, x.length ≤ 1048576 := fun x hx => by have := hr x hx; omega
  have hlb : (lbR b s).1.length ≤ 11 := by
    unfold lbR
    split
    · have := outB_len b s 0 []
      rw [List.length_nil] at this
      omega
    · simp
  refine ⟨Z + 1, ?_⟩
  unfold laws_FnLeaders.f
  by_cases h0 : wrap64 ((l.length : Int) + (m.length : Int)) > 1048576
  · rw [if_pos h0]
  rw [if_neg h0, e1 _ (by omega), Option.bind_some]
  dsimp only
  rw [impl_LB b s _ (by omega) hrow (by omega), spec_LB b s _ (by omega) hrow (by omega), impl_LeaderOf_f b _ (by omega) (by omega), spec_LeaderOf_f b _ (by omega) (by omega), impl_goodB b _ (by omega) (by omega), spec_goodB b _ (by omega) (by omega)]
  simp only [Option.bind_some]
  rw [bne_self_eq_false, if_neg (by decide), sameI (lbR b s).1 _ (by omega) (by omega), Option.bind_some, if_pos rfl, bne_self_eq_false, if_neg (by decide), if_pos trivial, bne_self_eq_false, laws_FnLeaders.j0, if_neg (by decide)]
  by_cases h : goodB b = true ∧ ¬ leadId (lead none b) = 0
  · have e : leaderR b = (leadId (lead none b), true) := by
      unfold leaderR
      rw [if_pos h]
    rw [e, if_pos rfl]
    exact all_part m dm b h.1 h.2 Z (by omega)
  · have e : leaderR b = (0, false) := by
      unfold leaderR
      rw [if_neg h]
    rw [e, if_neg (by decide)]
    exact last_part m dm Z (by omega)

end Go.Proofs.Ytgcondmgpcaahaa.Pure
