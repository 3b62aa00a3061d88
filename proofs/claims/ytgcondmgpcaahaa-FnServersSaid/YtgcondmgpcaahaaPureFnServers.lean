/- FnServers answers true for all drawn bridges. No condition beyond the row's own bounds. -/
import Derived.Test.YtgcondmgpcaahaaSFnServers
namespace Go.Proofs.Ytgcondmgpcaahaa.Pure
open Go.RowKit Go.Proofs.Ytgcondmgpcaahaa.PFnServers Go.Proofs.YtgcondmgpcaahaaW.PrintWords Go.Proofs.YtgcondmgpcaahaaW.PrintLast
set_option linter.unusedVariables false
set_option linter.unusedSimpArgs false

-- w64
theorem w64 {x : Int} (h0 : -9223372036854775808 ≤ x) (h1 : x ≤ 9223372036854775807) : wrap64 x = x := by
  unfold wrap64
  omega
theorem tm {x y : Int} (h0 : 0 ≤ x) : Int.tmod x y = x % y := Int.tmod_eq_emod_of_nonneg h0
theorem wf64 {x : Int} (h : (Lit.int .i64 x).wf = true) : -9223372036854775808 ≤ x ∧ x ≤ 9223372036854775807 := by
  simp [Lit.wf, IntKind.min, IntKind.max, IntKind.signed, IntKind.bits] at h
  omega

-- helps
theorem set_take {α : Type} (m L : List α) (i : Nat) (hi : i < L.length) (hm : m.length = L.length) (ht : m.take i = L.take i) (v : α) (hv : L[i]? = some v) : (m.set i v).take (i + 1) = L.take (i + 1) := by
  rw [List.take_set, List.take_succ_eq_append_getElem (by omega), List.take_succ_eq_append_getElem hi, ht, List.set_append_right _ _ (by rw [List.length_take]; omega)]
  rw [List.length_take, show i - min i L.length = 0 by omega]
  rw [List.getElem?_eq_getElem hi] at hv
  rw [Option.some.inj hv]
  rfl
/-- From some number of rounds on: one number for a pair. -/
theorem ev_at {α : Type} {g : Nat → Option α} {r : α} (h : Ev g r) : ∃ K, ∀ k, K ≤ k → g k = some r := h
theorem ev_some {α : Type} {g : Nat → Option α} {r : α} (h : ∀ k, g k = some r) : Ev g r := ⟨0, fun k _ => h k⟩
theorem ev_ge {α : Type} {g : Nat → Option α} {r : α} (K : Nat) (h : ∀ k, K ≤ k → g k = some r) : Ev g r := ⟨K, h⟩

-- rdt(35)
theorem rd_T35_at (l : List S35) (i : Nat) (h : i < l.length) : rd_T35 l i = l[i] := by
  simp [rd_T35, List.getD_eq_getElem?_getD, List.getElem?_eq_getElem h]

-- goodb(35)
theorem in_same (a b c : Int) : impl_in.f a b c = spec_l1In.f a b c := rfl
theorem bridge_same (a b : Int) (c : Bool) : impl_isBridge.f a b c = spec_l4Bridge.f a b c := rfl
theorem goodb_l : ∀ (k : Nat) (x0 x5 : List S35) (x6 x7 : Int), impl_GoodBridges.l0 k x0 x5 x6 x7 = spec_GoodBridges.l0 k x0 x5 x6 x7
  | 0, _, _, _, _ => rfl
  | k + 1, x0, x5, x6, x7 => by simp only [impl_GoodBridges.l0, spec_GoodBridges.l0, bridge_same, in_same, goodb_l k]
theorem goodb_same (k : Nat) (l : List S35) : impl_GoodBridges.f k l = spec_GoodBridges.f k l := goodb_l k l l _ _
def okB (x : S35) : Bool := decide ((1 ≤ x.f0 ∧ x.f0 ≤ 1000) ∧ 0 ≤ x.f1 ∧ x.f1 ≤ 127)
theorem okB_eq (x : S35) : spec_l4Bridge.f x.f0 x.f1 x.f2 = some (okB x) := by
  unfold spec_l4Bridge.f spec_l1In.f okB
  by_cases h0 : 1 ≤ x.f0
  · by_cases h1 : x.f0 ≤ 1000
    · by_cases h2 : 0 ≤ x.f1
      · simp [h0, h1, h2]
      · simp [h0, h1, h2]
    · simp [h0, h1]
  · simp [h0]
/-- Bridges with rising Ids behind one. -/
def upB (p : Int) : List S35 → Bool
  | [] => true
  | x :: r => okB x && (decide (p < x.f0) && upB x.f0 r)
def goodB (l : List S35) : Bool := upB 0 l && decide (1 ≤ l.length ∧ l.length ≤ 10)
def before (l : List S35) : Nat → Int
  | 0 => 0
  | i + 1 => (rd_T35 l i).f0
theorem drop_B (l : List S35) (i : Nat) (h : i < l.length) : l.drop i = rd_T35 l i :: l.drop (i + 1) := by
  rw [rd_T35_at l i h]
  exact List.drop_eq_getElem_cons h
theorem wi (i : Nat) (h : i ≤ 4611686018427387904) : wrap64 ((i : Int) + 1) = ((i + 1 : Nat) : Int) := by
  rw [w64 (by omega) (by omega)]
  omega
theorem spec_goodB_l (l : List S35) (hn : l.length ≤ 4611686018427387904) (d : Nat) : ∀ (k i : Nat), i + d = l.length → d < k →
    spec_GoodBridges.l0 k l l l.length i = some (upB (before l i) (l.drop i) && decide (1 ≤ l.length ∧ l.length ≤ 10)) := by
  induction d with
  | zero =>
    intro k i h hk
    obtain ⟨k, rfl⟩ : ∃ m, k = m + 1 := ⟨k - 1, by omega⟩
    simp only [spec_GoodBridges.l0, spec_l1In.f]
    rw [if_neg (by omega), List.drop_of_length_le (by omega)]
    simp only [upB, Bool.true_and]
    by_cases h1 : 1 ≤ l.length
    · rw [if_pos (show (l.length : Int) ≥ 1 by omega)]
      by_cases h2 : l.length ≤ 10
      · rw [decide_eq_true (show (l.length : Int) ≤ 10 by omega), decide_eq_true ⟨h1, h2⟩]
        rfl
      · rw [decide_eq_false (show ¬ (l.length : Int) ≤ 10 by omega), decide_eq_false (fun e => h2 e.2)]
        rfl
    · rw [if_neg (show ¬ (l.length : Int) ≥ 1 by omega), decide_eq_false (fun e => h1 e.1)]
      rfl
  | succ d ih =>
    intro k i h hk
    obtain ⟨k, rfl⟩ : ∃ m, k = m + 1 := ⟨k - 1, by omega⟩
    have ih := ih k (i + 1) (by omega) (by omega)
    rw [drop_B l i (by omega)]
    simp only [spec_GoodBridges.l0]
    rw [if_pos (by omega), if_pos (by omega), if_pos (by omega), okB_eq, wi _ (by omega)]
    simp only [Option.bind_some, upB]
    cases ho : okB (rd_T35 l i)
    · simp
    · simp only [if_true, Bool.true_and]
      cases i with
      | zero =>
        rw [if_neg (by omega)]
        have hp : (0 : Int) < (rd_T35 l 0).f0 := by
          unfold okB at ho
          simp at ho
          omega
        rw [ih, show before l 0 = 0 from rfl]
        simp only [before, Int.natCast_zero, show ((0 : Nat) : Int) = 0 from rfl]
        rw [decide_eq_true hp]
        simp
      | succ i =>
        rw [if_pos (by omega), w64 (x := ((i + 1 : Nat) : Int) - 1) (by omega) (by omega), show ((i + 1 : Nat) : Int) - 1 = (i : Int) by omega, if_pos (by omega), if_pos (by omega)]
        have hb : before l (i + 1) = (rd_T35 l i).f0 := rfl
        by_cases hlt : before l (i + 1) < (rd_T35 l ((i + 1 : Nat) : Int)).f0
        · rw [if_neg (by omega), ih, decide_eq_true hlt]
          simp only [Bool.true_and]
          rfl
        · rw [if_pos (by omega), decide_eq_false hlt]
          simp
theorem spec_goodB (l : List S35) (k : Nat) (hn : l.length ≤ 4611686018427387904) (hk : l.length < k) : spec_GoodBridges.f k l = some (goodB l) := by
  have h := spec_goodB_l l hn l.length k 0 (by omega) hk
  rw [List.drop_zero] at h
  exact h
theorem impl_goodB (l : List S35) (k : Nat) (hn : l.length ≤ 4611686018427387904) (hk : l.length < k) : impl_GoodBridges.f k l = some (goodB l) := by
  rw [goodb_same]
  exact spec_goodB l k hn hk
theorem upB_ok : ∀ (l : List S35) (p : Int), upB p l = true → ∀ x ∈ l, okB x = true ∧ p < x.f0
  | y :: l, p, h, x, hx => by
    simp only [upB, Bool.and_eq_true, decide_eq_true_eq] at h
    rcases List.mem_cons.1 hx with rfl | hx
    · exact ⟨h.1, h.2.1⟩
    · have := upB_ok l _ h.2.2 x hx
      exact ⟨this.1, by omega⟩
theorem goodB_ok (l : List S35) (h : goodB l = true) : (∀ x ∈ l, (1 ≤ x.f0 ∧ x.f0 ≤ 1000) ∧ 0 ≤ x.f1 ∧ x.f1 ≤ 127) ∧ 1 ≤ l.length ∧ l.length ≤ 10 := by
  unfold goodB at h
  simp only [Bool.and_eq_true, decide_eq_true_eq] at h
  refine ⟨fun x hx => ?_, h.2⟩
  have := (upB_ok l 0 h.1 x hx).1
  unfold okB at this
  simpa using this

-- servers(35)
def sc (a g : Int) : Int := (7 * a + 13 * g) % 101
theorem spec_sc (a g : Int) (ha : 0 ≤ a ∧ a ≤ 1000) (hg : 0 ≤ g ∧ g ≤ 40) : spec_l4Score.f a g = some (sc a g) := by
  unfold spec_l4Score.f sc
  rw [w64 (x := 7 * a) (by omega) (by omega), w64 (x := 13 * g) (by omega) (by omega), w64 (by omega) (by omega), tm (by omega)]
theorem impl_sc (a g : Int) (ha : 0 ≤ a ∧ a ≤ 1000) (hg : 0 ≤ g ∧ g ≤ 40) : Int.tmod (wrap64 ((wrap64 (a * 7)) + (wrap64 (g * 13)))) 101 = sc a g := by
  unfold sc
  rw [w64 (x := a * 7) (by omega) (by omega), w64 (x := g * 13) (by omega) (by omega), w64 (by omega) (by omega), tm (by omega), Int.mul_comm a, Int.mul_comm g]
/-- Who serves a group: the best till here (0: none), then the others. -/
def bestS (g b : Int) : List S35 → Int
  | [] => b
  | x :: r => bestS g (if x.f2 = true ∧ (b = 0 ∨ sc x.f0 g > sc b g) then x.f0 else b) r
def svs (l : List S35) : Nat → Nat → List Int
  | _, 0 => []
  | g, d + 1 => bestS g 0 l :: svs l (g + 1) d
theorem svs_len (l : List S35) : ∀ (d g : Nat), (svs l g d).length = d
  | 0, _ => rfl
  | d + 1, g => by simp [svs, svs_len l d]
theorem rd_ok (l : List S35) (hok : ∀ x ∈ l, 1 ≤ x.f0 ∧ x.f0 ≤ 1000) (i : Nat) (h : i < l.length) : 1 ≤ (rd_T35 l i).f0 ∧ (rd_T35 l i).f0 ≤ 1000 := by
  rw [rd_T35_at l i h]
  exact hok _ (List.getElem_mem _)
theorem spec_sv1 (l : List S35) (hn : l.length ≤ 10) (hok : ∀ x ∈ l, 1 ≤ x.f0 ∧ x.f0 ≤ 1000) (n : Int) (out : List Int) (ho : out.length ≤ 40) (g : Int) (hg : 0 ≤ g ∧ g ≤ 40) (r : List Int) (d : Nat) : ∀ (i : Nat) (b : Int), 0 ≤ b ∧ b ≤ 1000 → i + d = l.length →
    Ev (fun k => spec_l4Servers.l0 k l n (out ++ [bestS g b (l.drop i)]) (wrap64 (g + 1))) r → Ev (fun k => spec_l4Servers.l1 k l n out g b l l.length i) r := by
  induction d with
  | zero =>
    intro i b hb hi h
    rw [List.drop_of_length_le (by omega)] at h
    exact Ev.step (fun k => by simp only [spec_l4Servers.l1]; rw [if_neg (by omega), if_pos (by omega)]; rfl) h
  | succ d ih =>
    intro i b hb hi h
    have hx := rd_ok l hok i (by omega)
    rw [drop_B l i (by omega)] at h
    simp only [bestS] at h
    cases hu : (rd_T35 l i).f2
    · rw [hu, if_neg (by simp)] at h
      refine Ev.step (fun k => ?_) (ih (i + 1) b hb (by omega) h)
      simp only [spec_l4Servers.l1]
      rw [if_pos (by omega), if_pos (by omega), if_pos (by omega), if_neg (by rw [hu]; decide), wi _ (by omega)]
    · by_cases hz : b = 0
      · rw [hu, if_pos ⟨rfl, Or.inl hz⟩] at h
        refine Ev.step (fun k => ?_) (ih (i + 1) _ (by omega) (by omega) h)
        simp only [spec_l4Servers.l1]
        rw [if_pos (by omega), if_pos (by omega), if_pos (by omega), if_pos hu, if_pos hz, wi _ (by omega)]
      · by_cases hs : sc (rd_T35 l i).f0 g > sc b g
        · rw [hu, if_pos ⟨rfl, Or.inr hs⟩] at h
          refine Ev.step (fun k => ?_) (ih (i + 1) _ (by omega) (by omega) h)
          simp only [spec_l4Servers.l1]
          rw [if_pos (by omega), if_pos (by omega), if_pos (by omega), if_pos hu, if_neg hz, spec_sc _ _ (by omega) hg, spec_sc _ _ hb hg, wi _ (by omega)]
          simp only [Option.bind_some]
          rw [if_pos hs]
        · rw [hu, if_neg (by simp [hz]; omega)] at h
          refine Ev.step (fun k => ?_) (ih (i + 1) b hb (by omega) h)
          simp only [spec_l4Servers.l1]
          rw [if_pos (by omega), if_pos (by omega), if_pos (by omega), if_pos hu, if_neg hz, spec_sc _ _ (by omega) hg, spec_sc _ _ hb hg, wi _ (by omega)]
          simp only [Option.bind_some]
          rw [if_neg hs]
theorem spec_sv0 (l : List S35) (hn : l.length ≤ 10) (hok : ∀ x ∈ l, 1 ≤ x.f0 ∧ x.f0 ≤ 1000) (n : Nat) (hnn : n ≤ 40) (d : Nat) : ∀ (g : Nat) (out : List Int), out.length = g → g + d = n → Ev (fun k => spec_l4Servers.l0 k l n out g) (out ++ svs l g d) := by
  induction d with
  | zero =>
    intro g out ho hg
    rw [svs, List.append_nil]
    exact Ev.step (fun k => by simp only [spec_l4Servers.l0]; rw [if_neg (by omega)]) (Ev.now _)
  | succ d ih =>
    intro g out ho hg
    have ih := ih (g + 1) (out ++ [bestS g 0 l]) (by simp [ho]) (by omega)
    rw [List.append_assoc] at ih
    refine Ev.step (fun k => by simp only [spec_l4Servers.l0]; rw [if_pos (by omega)]; rfl) (spec_sv1 l hn hok n out (by omega) g (by omega) _ l.length 0 0 (by omega) (by omega) ?_)
    rw [List.drop_zero, wi _ (by omega)]
    exact ih
theorem spec_sv (l : List S35) (hn : l.length ≤ 10) (hok : ∀ x ∈ l, 1 ≤ x.f0 ∧ x.f0 ≤ 1000) (n : Nat) (hnn : n ≤ 40) : Ev (fun k => spec_l4Servers.f k l n) (svs l 0 n) :=
  spec_sv0 l hn hok n hnn n 0 [] rfl (by omega)
theorem impl_sv1 (l : List S35) (hn : l.length ≤ 10) (hok : ∀ x ∈ l, 1 ≤ x.f0 ∧ x.f0 ≤ 1000) (n : Int) (out : List Int) (ho : out.length ≤ 40) (g g2 : Int) (hg : 0 ≤ g ∧ g ≤ 40) (r : List Int) (d : Nat) : ∀ (i : Nat) (b m : Int), (b = 0 ∧ m = -1 ∨ (1 ≤ b ∧ b ≤ 1000) ∧ m = sc b g) → i + d = l.length →
    Ev (fun k => impl_servers.l0 k l (out ++ [bestS g b (l.drop i)]) n (wrap64 (g2 + 1))) r → Ev (fun k => impl_servers.l1 k l out g b m n g2 l l.length i) r := by
  induction d with
  | zero =>
    intro i b m hb hi h
    rw [List.drop_of_length_le (by omega)] at h
    exact Ev.step (fun k => by simp only [impl_servers.l1]; rw [if_neg (by omega), if_pos (by omega)]; rfl) h
  | succ d ih =>
    intro i b m hb hi h
    have hx := rd_ok l hok i (by omega)
    have h0 : 0 ≤ sc (rd_T35 l i).f0 g := by unfold sc; omega
    rw [drop_B l i (by omega)] at h
    simp only [bestS] at h
    cases hu : (rd_T35 l i).f2
    · rw [hu, if_neg (by simp)] at h
      refine Ev.step (fun k => ?_) (ih (i + 1) b m hb (by omega) h)
      simp only [impl_servers.l1]
      rw [if_pos (by omega), if_pos (by omega), if_pos (by omega), if_neg (by rw [hu]; decide), wi _ (by omega)]
    · by_cases hs : sc (rd_T35 l i).f0 g > m
      · rw [hu, if_pos ⟨rfl, by omega⟩] at h
        refine Ev.step (fun k => ?_) (ih (i + 1) _ (sc (rd_T35 l i).f0 g) (Or.inr ⟨hx, rfl⟩) (by omega) h)
        simp only [impl_servers.l1]
        rw [if_pos (by omega), if_pos (by omega), if_pos (by omega), if_pos hu, impl_sc _ _ (by omega) hg, if_pos hs, wi _ (by omega)]
      · rw [hu, if_neg (by simp; omega)] at h
        refine Ev.step (fun k => ?_) (ih (i + 1) b m hb (by omega) h)
        simp only [impl_servers.l1]
        rw [if_pos (by omega), if_pos (by omega), if_pos (by omega), if_pos hu, impl_sc _ _ (by omega) hg, if_neg hs, wi _ (by omega)]
theorem impl_sv0 (l : List S35) (hn : l.length ≤ 10) (hok : ∀ x ∈ l, 1 ≤ x.f0 ∧ x.f0 ≤ 1000) (n : Nat) (hnn : n ≤ 40) (d : Nat) : ∀ (g : Nat) (out : List Int), out.length = g → g + d = n → Ev (fun k => impl_servers.l0 k l out n g) (out ++ svs l g d) := by
  induction d with
  | zero =>
    intro g out ho hg
    rw [svs, List.append_nil]
    exact Ev.step (fun k => by simp only [impl_servers.l0]; rw [if_neg (by omega)]) (Ev.now _)
  | succ d ih =>
    intro g out ho hg
    have ih := ih (g + 1) (out ++ [bestS g 0 l]) (by simp [ho]) (by omega)
    rw [List.append_assoc] at ih
    refine Ev.step (fun k => by simp only [impl_servers.l0]; rw [if_pos (by omega)]; rfl) (impl_sv1 l hn hok n out (by omega) g g (by omega) _ l.length 0 0 (-1) (Or.inl ⟨rfl, rfl⟩) (by omega) ?_)
    rw [List.drop_zero, wi _ (by omega)]
    exact ih
theorem impl_sv (l : List S35) (hn : l.length ≤ 10) (hok : ∀ x ∈ l, 1 ≤ x.f0 ∧ x.f0 ≤ 1000) (n : Nat) (hnn : n ≤ 40) : Ev (fun k => impl_servers.f k l n) (svs l 0 n) :=
  impl_sv0 l hn hok n hnn n 0 [] rfl (by omega)

-- inrange(spec_l1In)
theorem spec_l1In_eq (a lo hi : Int) : spec_l1In.f a lo hi = some (decide (lo ≤ a ∧ a ≤ hi)) := by
  unfold spec_l1In.f
  by_cases h : lo ≤ a
  · rw [if_pos (show a ≥ lo from h)]
    simp [h]
  · rw [if_neg (show ¬ a ≥ lo from h)]
    simp [h]

-- at4(35)
theorem fnd_bd {α : Type} (p : α → Bool) : ∀ (l : List α) (i : Int), fnd p l i = -1 ∨ (i ≤ fnd p l i ∧ fnd p l i < i + l.length)
  | [], _ => .inl rfl
  | x :: l, i => by
    unfold fnd
    by_cases h : p x = true
    · rw [if_pos h, List.length_cons]
      right
      omega
    · rw [if_neg h, List.length_cons]
      have := fnd_bd p l (i + 1)
      omega
theorem spec_at_l (id : Int) (l : List S35) (hn : l.length ≤ 4611686018427387904) (d : Nat) : ∀ (k i : Nat), i + d = l.length → d < k → spec_l4At.l0 k id l l.length i = some (fnd (idB id) (l.drop i) i) := by
  induction d with
  | zero =>
    intro k i h hk
    obtain ⟨k, rfl⟩ : ∃ m, k = m + 1 := ⟨k - 1, by omega⟩
    simp only [spec_l4At.l0]
    rw [if_neg (by omega), List.drop_of_length_le (by omega)]
    rfl
  | succ d ih =>
    intro k i h hk
    obtain ⟨k, rfl⟩ : ∃ m, k = m + 1 := ⟨k - 1, by omega⟩
    simp only [spec_l4At.l0]
    rw [if_pos (by omega), if_pos (by omega), if_pos (by omega), drop_B l i (by omega)]
    unfold fnd
    by_cases e : (rd_T35 l i).f0 = id
    · rw [if_pos e, if_pos (by simpa [idB] using e)]
    · rw [if_neg e, if_neg (by simpa [idB] using e), wi i (by omega), ih k (i + 1) (by omega) (by omega)]
      rfl
theorem spec_at (id : Int) (l : List S35) (k : Nat) (hn : l.length ≤ 4611686018427387904) (hk : l.length < k) : spec_l4At.f k l id = some (fnd (idB id) l 0) := by
  have h := spec_at_l id l hn l.length k 0 (by omega) hk
  rw [List.drop_zero] at h
  exact h
theorem impl_at (id : Int) (l : List S35) (hn : l.length ≤ 4611686018427387904) : impl_bridge.f l id = some (fnd (idB id) l 0) := if_pos hn
theorem at_in (id : Int) (l : List S35) (h : ¬ fnd (idB id) l 0 < 0) : 0 ≤ fnd (idB id) l 0 ∧ fnd (idB id) l 0 < (l.length : Int) := by
  have := fnd_bd (idB id) l 0
  omega

-- moved(35;57)
def dif (a b : List Int) (i : Nat) : Nat → List Int
  | 0 => []
  | d + 1 => (if rd a i = rd b i then [] else [(i : Int)]) ++ dif a b (i + 1) d
theorem dif_len (a b : List Int) : ∀ d i, (dif a b i d).length ≤ d
  | 0, _ => Nat.le_refl _
  | d + 1, i => by
    unfold dif
    have := dif_len a b d (i + 1)
    rw [List.length_append]
    split <;> simp only [List.length_nil, List.length_cons] <;> omega
theorem dif_comm (a b : List Int) : ∀ d i, dif a b i d = dif b a i d
  | 0, _ => rfl
  | d + 1, i => by
    unfold dif
    rw [dif_comm a b d (i + 1)]
    by_cases h : rd a i = rd b i
    · rw [if_pos h, if_pos h.symm]
    · rw [if_neg h, if_neg (fun e => h e.symm)]
theorem spec_dif (a b : List Int) (hl : a.length = b.length) (hn : a.length ≤ 40) (d : Nat) : ∀ (k i : Nat) (out : List Int), i + d = a.length → out.length ≤ i → d < k → spec_Moved.l0 k b out a a.length i = some (out ++ dif a b i d, true) := by
  induction d with
  | zero =>
    intro k i out h ho hk
    obtain ⟨k, rfl⟩ : ∃ m, k = m + 1 := ⟨k - 1, by omega⟩
    simp only [spec_Moved.l0]
    rw [if_neg (by omega)]
    simp [dif]
  | succ d ih =>
    intro k i out h ho hk
    obtain ⟨k, rfl⟩ : ∃ m, k = m + 1 := ⟨k - 1, by omega⟩
    simp only [spec_Moved.l0]
    rw [if_pos (by omega), if_pos (by omega), if_pos (by omega), if_pos (by omega), wi i (by omega)]
    unfold dif
    by_cases e : rd a i = rd b i
    · rw [if_pos e, if_pos e, ih k (i + 1) out (by omega) (by omega) (by omega)]
      simp
    · rw [if_neg e, if_neg e, if_pos (by omega), ih k (i + 1) _ (by omega) (by rw [List.length_append, List.length_singleton]; omega) (by omega)]
      simp
theorem impl_dif (a b : List Int) (hl : a.length = b.length) (hn : a.length ≤ 40) (d : Nat) : ∀ (k i : Nat) (out : List Int), i + d = a.length → out.length ≤ i → d < k → impl_Moved.l0 k out b a a.length i = some (out ++ dif a b i d, true) := by
  induction d with
  | zero =>
    intro k i out h ho hk
    obtain ⟨k, rfl⟩ : ∃ m, k = m + 1 := ⟨k - 1, by omega⟩
    simp only [impl_Moved.l0]
    rw [if_neg (by omega)]
    simp [dif]
  | succ d ih =>
    intro k i out h ho hk
    obtain ⟨k, rfl⟩ : ∃ m, k = m + 1 := ⟨k - 1, by omega⟩
    simp only [impl_Moved.l0]
    rw [if_pos (by omega), if_pos (by omega), if_pos (by omega), if_pos (by omega), wi i (by omega)]
    unfold dif
    by_cases e : rd a i = rd b i
    · rw [if_pos e, if_pos e, ih k (i + 1) out (by omega) (by omega) (by omega)]
      simp
    · rw [if_neg e, if_neg e, if_pos (by omega), ih k (i + 1) _ (by omega) (by rw [List.length_append, List.length_singleton]; omega) (by omega)]
      simp
def downB (l : List S35) (j : Int) : List S35 := l.set j.toNat ⟨(rd_T35 l j).f0, (rd_T35 l j).f1, false⟩
def movedR (l : List S35) (id n : Int) : List Int × Bool :=
  if goodB l = true ∧ (0 ≤ n ∧ n ≤ 40) ∧ ¬ fnd (idB id) l 0 < 0 ∧ (rd_T35 l (fnd (idB id) l 0)).f2 = true then (dif (svs l 0 n.toNat) (svs (downB l (fnd (idB id) l 0)) 0 n.toNat) 0 n.toNat, true) else ([], false)
theorem movedR_len (l : List S35) (id n : Int) : (movedR l id n).1.length ≤ 40 := by
  unfold movedR
  split
  · rename_i h
    have := dif_len (svs l 0 n.toNat) (svs (downB l (fnd (idB id) l 0)) 0 n.toNat) n.toNat 0
    simp only
    omega
  · simp
theorem down_ok (l : List S35) (j : Int) (h0 : 0 ≤ j) (h1 : j < l.length) (hok : ∀ x ∈ l, 1 ≤ x.f0 ∧ x.f0 ≤ 1000) : ∀ x ∈ downB l j, 1 ≤ x.f0 ∧ x.f0 ≤ 1000 := by
  intro x hx
  rcases List.mem_or_eq_of_mem_set hx with h | rfl
  · exact hok x h
  · obtain ⟨i, rfl⟩ := Int.eq_ofNat_of_zero_le h0
    exact rd_ok l hok i (by omega)
theorem spec_Moved_f (l : List S35) (id n : Int) (hn : l.length ≤ 4611686018427) : Ev (fun k => spec_Moved.f k l id n) (movedR l id n) := by
  have e1 := fun k hk => spec_at id l k (by omega) hk
  have e2 := fun k hk => spec_goodB l k (by omega) hk
  unfold movedR
  cases hg : goodB l
  · refine ev_ge (l.length + 2) (fun k hk => ?_)
    obtain ⟨k, rfl⟩ : ∃ m, k = m + 1 := ⟨k - 1, by omega⟩
    unfold spec_Moved.f
    rw [e1 (k + 1) (by omega), e2 (k + 1) (by omega), hg]
    simp [spec_Moved.j0]
  · obtain ⟨hb, _, h10⟩ := goodB_ok l hg
    by_cases h : 0 ≤ n ∧ n ≤ 40
    · by_cases hf : fnd (idB id) l 0 < 0
      · refine ev_ge (l.length + 2) (fun k hk => ?_)
        obtain ⟨k, rfl⟩ : ∃ m, k = m + 1 := ⟨k - 1, by omega⟩
        unfold spec_Moved.f
        rw [e1 (k + 1) (by omega), e2 (k + 1) (by omega), hg, spec_l1In_eq, decide_eq_true h, if_neg (fun e => e.2.2.1 hf)]
        simp only [Option.bind_some, if_true]
        rw [if_pos hf]
        simp [spec_Moved.j0]
      · obtain ⟨h0, h1⟩ := at_in id l hf
        cases hu : (rd_T35 l (fnd (idB id) l 0)).f2
        · refine ev_ge (l.length + 2) (fun k hk => ?_)
          obtain ⟨k, rfl⟩ : ∃ m, k = m + 1 := ⟨k - 1, by omega⟩
          unfold spec_Moved.f
          rw [e1 (k + 1) (by omega), e2 (k + 1) (by omega), hg, spec_l1In_eq, decide_eq_true h]
          simp only [Option.bind_some, if_true]
          rw [if_neg hf, if_pos h0, if_pos h1, hu]
          simp [spec_Moved.j0]
        · obtain ⟨m, rfl⟩ := Int.eq_ofNat_of_zero_le h.1
          obtain ⟨K1, hK1⟩ := spec_sv l h10 (fun x hx => (hb x hx).1) m (by omega)
          obtain ⟨K2, hK2⟩ := spec_sv (downB l (fnd (idB id) l 0)) (by unfold downB; rw [List.length_set]; exact h10) (down_ok l _ h0 h1 (fun x hx => (hb x hx).1)) m (by omega)
          refine ev_ge (K1 + K2 + l.length + m + 5) (fun k hk => ?_)
          obtain ⟨k, rfl⟩ : ∃ m, k = m + 1 := ⟨k - 1, by omega⟩
          have d1 : spec_l4Servers.f k l (m : Int) = some (svs l 0 m) := hK1 k (by omega)
          have d2 : spec_l4Servers.f k (downB l (fnd (idB id) l 0)) (m : Int) = some (svs (downB l (fnd (idB id) l 0)) 0 m) := hK2 k (by omega)
          unfold spec_Moved.f
          rw [e1 (k + 1) (by omega), e2 (k + 1) (by omega), hg, spec_l1In_eq, decide_eq_true h, if_pos ⟨rfl, h, hf, rfl⟩]
          simp only [Option.bind_some, if_true]
          rw [if_neg hf, if_pos h0, if_pos h1, hu]
          simp only [spec_Moved.j0, Bool.not_true, Bool.false_eq_true, if_false]
          rw [d1]
          simp only [Option.bind_some, List.nil_append]
          rw [if_pos (by simp only [List.length_nil]; omega), if_pos h0, if_pos h1]
          rw [show l.set (fnd (idB id) l 0).toNat (⟨(rd_T35 l (fnd (idB id) l 0)).f0, (rd_T35 l (fnd (idB id) l 0)).f1, false⟩ : S35) = downB l (fnd (idB id) l 0) from rfl, d2]
          simp only [Option.bind_some]
          have h2 := spec_dif (svs (downB l (fnd (idB id) l 0)) 0 m) (svs l 0 m) (by rw [svs_len, svs_len]) (by rw [svs_len]; omega) m k 0 [] (by rw [svs_len]; omega) (Nat.le_refl _) (by omega)
          rw [dif_comm, List.nil_append] at h2
          exact h2
    · refine ev_ge (l.length + 2) (fun k hk => ?_)
      obtain ⟨k, rfl⟩ : ∃ m, k = m + 1 := ⟨k - 1, by omega⟩
      unfold spec_Moved.f
      rw [e1 (k + 1) (by omega), e2 (k + 1) (by omega), hg, spec_l1In_eq, decide_eq_false h, if_neg (fun e => h e.2.1)]
      simp [spec_Moved.j0]
theorem impl_Moved_f (l : List S35) (id n : Int) (hn : l.length ≤ 4611686018427) : Ev (fun k => impl_Moved.f k l id n) (movedR l id n) := by
  have e1 := impl_at id l (by omega)
  have e2 := fun k hk => impl_goodB l k (by omega) hk
  unfold movedR
  cases hg : goodB l
  · refine ev_ge (l.length + 2) (fun k hk => ?_)
    obtain ⟨k, rfl⟩ : ∃ m, k = m + 1 := ⟨k - 1, by omega⟩
    unfold impl_Moved.f
    rw [e2 (k + 1) (by omega), hg]
    simp [impl_Moved.j0]
  · obtain ⟨hb, _, h10⟩ := goodB_ok l hg
    by_cases h : 0 ≤ n ∧ n ≤ 40
    · by_cases hf : fnd (idB id) l 0 < 0
      · refine ev_ge (l.length + 2) (fun k hk => ?_)
        obtain ⟨k, rfl⟩ : ∃ m, k = m + 1 := ⟨k - 1, by omega⟩
        unfold impl_Moved.f
        rw [e2 (k + 1) (by omega), hg, in_same, spec_l1In_eq, decide_eq_true h, if_neg (fun e => e.2.2.1 hf)]
        simp only [Option.bind_some, if_true]
        rw [e1]
        simp only [Option.bind_some]
        rw [if_pos hf]
        simp [impl_Moved.j0]
      · obtain ⟨h0, h1⟩ := at_in id l hf
        cases hu : (rd_T35 l (fnd (idB id) l 0)).f2
        · refine ev_ge (l.length + 2) (fun k hk => ?_)
          obtain ⟨k, rfl⟩ : ∃ m, k = m + 1 := ⟨k - 1, by omega⟩
          unfold impl_Moved.f
          rw [e2 (k + 1) (by omega), hg, in_same, spec_l1In_eq, decide_eq_true h]
          simp only [Option.bind_some, if_true]
          rw [e1]
          simp only [Option.bind_some]
          rw [if_neg hf, if_pos h0, if_pos h1, hu]
          simp [impl_Moved.j0]
        · obtain ⟨m, rfl⟩ := Int.eq_ofNat_of_zero_le h.1
          obtain ⟨K1, hK1⟩ := impl_sv l h10 (fun x hx => (hb x hx).1) m (by omega)
          obtain ⟨K2, hK2⟩ := impl_sv (downB l (fnd (idB id) l 0)) (by unfold downB; rw [List.length_set]; exact h10) (down_ok l _ h0 h1 (fun x hx => (hb x hx).1)) m (by omega)
          refine ev_ge (K1 + K2 + l.length + m + 5) (fun k hk => ?_)
          obtain ⟨k, rfl⟩ : ∃ m, k = m + 1 := ⟨k - 1, by omega⟩
          have d1 : impl_servers.f k l (m : Int) = some (svs l 0 m) := hK1 k (by omega)
          have d2 : impl_servers.f k (downB l (fnd (idB id) l 0)) (m : Int) = some (svs (downB l (fnd (idB id) l 0)) 0 m) := hK2 k (by omega)
          unfold impl_Moved.f
          rw [e2 (k + 1) (by omega), hg, in_same, spec_l1In_eq, decide_eq_true h, if_pos ⟨rfl, h, hf, rfl⟩]
          simp only [Option.bind_some, if_true]
          rw [e1]
          simp only [Option.bind_some]
          rw [if_neg hf, if_pos h0, if_pos h1, hu]
          simp only [impl_Moved.j0, Bool.not_true, Bool.false_eq_true, if_false]
          unfold impl_Bridge_57.f
          rw [if_pos (by omega), e1]
          simp only [Option.bind_some]
          rw [if_pos h0, if_pos h1]
          rw [show l.set (fnd (idB id) l 0).toNat (⟨(rd_T35 l (fnd (idB id) l 0)).f0, (rd_T35 l (fnd (idB id) l 0)).f1, false⟩ : S35) = downB l (fnd (idB id) l 0) from rfl, d2]
          simp only [Option.bind_some]
          rw [d1]
          simp only [Option.bind_some]
          have h2 := impl_dif (svs l 0 m) (svs (downB l (fnd (idB id) l 0)) 0 m) (by rw [svs_len, svs_len]) (by rw [svs_len]; omega) m k 0 [] (by rw [svs_len]; omega) (Nat.le_refl _) (by omega)
          rw [List.nil_append] at h2
          exact h2
    · refine ev_ge (l.length + 2) (fun k hk => ?_)
      obtain ⟨k, rfl⟩ : ∃ m, k = m + 1 := ⟨k - 1, by omega⟩
      unfold impl_Moved.f
      rw [e2 (k + 1) (by omega), hg, in_same, spec_l1In_eq, decide_eq_false h, if_neg (fun e => h e.2.1)]
      simp [impl_Moved.j0]

-- setrank(35;57)
def setR (l : List S35) (id n : Int) : List S35 × Bool :=
  if goodB l = true ∧ ¬ fnd (idB id) l 0 < 0 ∧ (0 ≤ n ∧ n ≤ 127) then (l.set (fnd (idB id) l 0).toNat ⟨(rd_T35 l (fnd (idB id) l 0)).f0, n, (rd_T35 l (fnd (idB id) l 0)).f2⟩, true) else ([], false)
theorem spec_SetRank_f (l : List S35) (id n : Int) (k : Nat) (hn : l.length ≤ 4611686018427) (hk : l.length < k) : spec_SetRank.f k l id n = some (setR l id n) := by
  unfold spec_SetRank.f setR
  rw [spec_at id l k (by omega) hk, spec_goodB l k (by omega) hk]
  simp only [Option.bind_some]
  cases hg : goodB l
  · simp
  · simp only [if_true, true_and]
    by_cases h : fnd (idB id) l 0 < 0
    · rw [if_pos h, if_neg (fun e => e.1 h)]
    · rw [if_neg h, spec_l1In_eq]
      simp only [Option.bind_some]
      obtain ⟨h0, h1⟩ := at_in id l h
      by_cases hr : 0 ≤ n ∧ n ≤ 127
      · rw [decide_eq_true hr, if_pos rfl, if_pos (by simp only [List.length_nil]; omega)]
        simp only [List.nil_append]
        rw [if_pos h0, if_pos h1, if_pos ⟨h, hr⟩]
      · rw [decide_eq_false hr, if_neg (by simp), if_neg (fun e => hr e.2)]
theorem impl_SetRank_f (l : List S35) (id n : Int) (k : Nat) (hn : l.length ≤ 4611686018427) (hk : l.length + 1 < k) : impl_SetRank.f k l id n = some (setR l id n) := by
  obtain ⟨k, rfl⟩ : ∃ m, k = m + 1 := ⟨k - 1, by omega⟩
  unfold impl_SetRank.f setR
  rw [impl_goodB l (k + 1) (by omega) (by omega)]
  simp only [Option.bind_some]
  cases hg : goodB l
  · simp [impl_SetRank.j0]
  · simp only [if_true, true_and]
    rw [impl_at id l (by omega)]
    simp only [Option.bind_some]
    by_cases h : fnd (idB id) l 0 < 0
    · rw [if_pos h, if_neg (fun e => e.1 h)]
      simp [impl_SetRank.j0]
    · rw [if_neg h, in_same, spec_l1In_eq]
      simp only [Option.bind_some]
      obtain ⟨h0, h1⟩ := at_in id l h
      by_cases hr : 0 ≤ n ∧ n ≤ 127
      · rw [decide_eq_true hr, if_pos ⟨h, hr⟩]
        simp only [impl_SetRank.j0, Bool.not_true, Bool.false_eq_true, if_false]
        unfold impl_Bridge_57.f
        rw [if_pos (by omega), impl_at id l (by omega)]
        simp only [Option.bind_some]
        rw [if_pos h0, if_pos h1]
      · rw [decide_eq_false hr, if_neg (fun e => hr e.2)]
        simp [impl_SetRank.j0]

-- serversof(35)
/-- What ServersOf tells. -/
def serversR (l : List S35) (n : Int) : List Int × Bool := if goodB l = true ∧ (0 ≤ n ∧ n ≤ 40) then (svs l 0 n.toNat, true) else ([], false)
theorem serversR_len (l : List S35) (n : Int) : (serversR l n).1.length ≤ 40 := by
  unfold serversR
  split
  · rename_i h
    simp only [svs_len]
    omega
  · simp
theorem spec_ServersOf_f (l : List S35) (hn : l.length ≤ 4611686018427387904) (n : Int) : Ev (fun k => spec_ServersOf.f k l n) (serversR l n) := by
  unfold serversR
  cases hg : goodB l
  · refine ev_ge (l.length + 1) (fun k hk => ?_)
    unfold spec_ServersOf.f
    rw [spec_goodB l k hn (by omega), hg]
    simp
  · by_cases h : 0 ≤ n ∧ n ≤ 40
    · obtain ⟨h1, _, h10⟩ := goodB_ok l hg
      obtain ⟨m, rfl⟩ := Int.eq_ofNat_of_zero_le h.1
      obtain ⟨K, hK⟩ := spec_sv l h10 (fun x hx => (h1 x hx).1) m (by omega)
      refine ev_ge (K + l.length + 1) (fun k hk => ?_)
      have e : spec_l4Servers.f k l (m : Int) = some (svs l 0 m) := hK k (by omega)
      unfold spec_ServersOf.f
      rw [spec_goodB l k hn (by omega), hg, spec_l1In_eq, decide_eq_true h]
      simp only [Option.bind_some, if_true]
      rw [e, if_pos (by simpa using h)]
      simp
    · refine ev_ge (l.length + 1) (fun k hk => ?_)
      unfold spec_ServersOf.f
      rw [spec_goodB l k hn (by omega), hg, spec_l1In_eq, decide_eq_false h, if_neg (fun e => h e.2)]
      simp
theorem impl_ServersOf_f (l : List S35) (hn : l.length ≤ 4611686018427387904) (n : Int) : Ev (fun k => impl_ServersOf.f k l n) (serversR l n) := by
  unfold serversR
  cases hg : goodB l
  · refine ev_ge (l.length + 1) (fun k hk => ?_)
    unfold impl_ServersOf.f
    rw [impl_goodB l k hn (by omega), hg]
    simp
  · by_cases h : 0 ≤ n ∧ n ≤ 40
    · obtain ⟨h1, _, h10⟩ := goodB_ok l hg
      obtain ⟨m, rfl⟩ := Int.eq_ofNat_of_zero_le h.1
      obtain ⟨K, hK⟩ := impl_sv l h10 (fun x hx => (h1 x hx).1) m (by omega)
      refine ev_ge (K + l.length + 1) (fun k hk => ?_)
      have e : impl_servers.f k l (m : Int) = some (svs l 0 m) := hK k (by omega)
      unfold impl_ServersOf.f
      rw [impl_goodB l k hn (by omega), hg, in_same, spec_l1In_eq, decide_eq_true h]
      simp only [Option.bind_some, if_true]
      rw [e, if_pos (by simpa using h)]
      simp
    · refine ev_ge (l.length + 1) (fun k hk => ?_)
      unfold impl_ServersOf.f
      rw [impl_goodB l k hn (by omega), hg, in_same, spec_l1In_eq, decide_eq_false h, if_neg (fun e => h e.2)]
      simp

-- dropi
theorem drop_i (l : List Int) (i : Nat) (h : i < l.length) : l.drop i = rd l i :: l.drop (i + 1) := by
  unfold rd
  rw [Int.toNat_natCast, List.getD_eq_getElem?_getD, List.getElem?_eq_getElem h]
  exact List.drop_eq_getElem_cons h
theorem rd_mem (l : List Int) (i : Nat) (h : i < l.length) : rd l i ∈ l := by
  unfold rd
  rw [Int.toNat_natCast, List.getD_eq_getElem?_getD, List.getElem?_eq_getElem h]
  exact List.getElem_mem h

-- leaderi(35)
def btB (a b : S35) : Bool := decide (a.f1 > b.f1 ∨ a.f1 = b.f1 ∧ a.f0 > b.f0)
theorem impl_beatsB (a b : S35) : impl_beats.f a.f0 a.f1 a.f2 b.f0 b.f1 b.f2 = some (btB a b) := by
  unfold impl_beats.f btB
  by_cases h : a.f1 > b.f1
  · simp [h]
  · by_cases h2 : a.f1 = b.f1
    · simp [h2]
    · simp [h, h2]
/-- The leader of some, behind one that leads till here. -/
def lead : Option S35 → List S35 → Option S35
  | b, [] => b
  | none, x :: r => lead (if x.f2 = true then some x else none) r
  | some b, x :: r => lead (if x.f2 = true ∧ btB x b = true then some x else some b) r
def leadId (o : Option S35) : Int := match o with | none => 0 | some x => x.f0
theorem impl_leader_l (l : List S35) (hn : l.length ≤ 4611686018427387904) (hok : ∀ x ∈ l, 1 ≤ x.f0) (d : Nat) : ∀ (k i : Nat) (b : S35) (o : Option S35), (o = none ∧ b.f0 = 0 ∨ o = some b ∧ 1 ≤ b.f0) → i + d = l.length → d < k →
    impl_leader.l0 k l l.length i b.f0 b.f1 b.f2 = some (leadId (lead o (l.drop i))) := by
  induction d with
  | zero =>
    intro k i b o ho h hk
    obtain ⟨k, rfl⟩ : ∃ m, k = m + 1 := ⟨k - 1, by omega⟩
    simp only [impl_leader.l0]
    rw [if_neg (by omega), List.drop_of_length_le (by omega)]
    rcases ho with ⟨rfl, hb⟩ | ⟨rfl, hb⟩
    · simp [lead, leadId, hb]
    · simp [lead, leadId]
  | succ d ih =>
    intro k i b o ho h hk
    obtain ⟨k, rfl⟩ : ∃ m, k = m + 1 := ⟨k - 1, by omega⟩
    have hx : 1 ≤ (rd_T35 l i).f0 := by
      rw [rd_T35_at l i (by omega)]
      exact hok _ (List.getElem_mem _)
    rw [drop_B l i (by omega)]
    simp only [impl_leader.l0]
    rw [if_pos (by omega), if_pos (by omega), if_pos (by omega), wi _ (by omega), impl_beatsB]
    have ih1 := ih k (i + 1) (rd_T35 l i) (some (rd_T35 l i)) (Or.inr ⟨rfl, hx⟩) (by omega) (by omega)
    have ih2 := ih k (i + 1) b o ho (by omega) (by omega)
    rcases ho with ⟨rfl, hb⟩ | ⟨rfl, hb⟩
    · simp only [lead]
      cases hu : (rd_T35 l i).f2
      · rw [if_neg (by decide), if_neg (by decide)]
        exact ih2
      · rw [if_pos rfl, if_pos hb, if_pos rfl]
        rw [hu] at ih1
        exact ih1
    · simp only [lead]
      cases hu : (rd_T35 l i).f2
      · rw [if_neg (by decide), if_neg (by simp)]
        exact ih2
      · rw [if_pos rfl, if_neg (by omega)]
        simp only [Option.bind_some]
        cases hbt : btB (rd_T35 l i) b
        · rw [if_neg (by decide), if_neg (by simp)]
          exact ih2
        · rw [if_pos rfl, if_pos (by simp)]
          rw [hu] at ih1
          exact ih1
theorem impl_leaderB (l : List S35) (k : Nat) (hn : l.length ≤ 4611686018427387904) (hok : ∀ x ∈ l, 1 ≤ x.f0) (hk : l.length < k) : impl_leader.f k l = some (leadId (lead none l)) := by
  have h := impl_leader_l l hn hok l.length k 0 ⟨0, 0, false⟩ none (Or.inl ⟨rfl, rfl⟩) (by omega) hk
  rw [List.drop_zero] at h
  exact h
/-- The leader of those at some places. -/

-- leaderofi(35)
theorem lead_pos : ∀ (l : List S35) (o : Option S35), (∀ x ∈ l, 1 ≤ x.f0) → (∀ x, o = some x → 1 ≤ x.f0) → 0 ≤ leadId (lead o l)
  | [], none, _, _ => by simp [lead, leadId]
  | [], some b, _, ho => by have := ho b rfl; simp [lead, leadId]; omega
  | x :: l, none, h, _ => by
    simp only [lead]
    refine lead_pos l _ (fun y hy => h y (List.mem_cons_of_mem _ hy)) (fun y hy => ?_)
    split at hy
    · rw [← Option.some.inj hy]
      exact h x List.mem_cons_self
    · cases hy
  | x :: l, some b, h, ho => by
    simp only [lead]
    refine lead_pos l _ (fun y hy => h y (List.mem_cons_of_mem _ hy)) (fun y hy => ?_)
    split at hy
    · rw [← Option.some.inj hy]
      exact h x List.mem_cons_self
    · rw [← Option.some.inj hy]
      exact ho b rfl
/-- What LeaderOf tells. -/
def leaderR (l : List S35) : Int × Bool := if goodB l = true ∧ ¬ leadId (lead none l) = 0 then (leadId (lead none l), true) else (0, false)
theorem impl_LeaderOf_f (l : List S35) (k : Nat) (hn : l.length ≤ 4611686018427387904) (hk : l.length + 1 < k) : impl_LeaderOf.f k l = some (leaderR l) := by
  unfold impl_LeaderOf.f leaderR
  rw [impl_goodB l _ hn (by omega)]
  simp only [Option.bind_some]
  cases hg : goodB l
  · rw [if_neg (by decide), if_neg (by simp)]
  · have hok := (goodB_ok l hg).1
    have hp := lead_pos l none (fun x hx => (hok x hx).1.1) (fun x hx => by cases hx)
    rw [if_pos rfl, impl_leaderB l _ hn (fun x hx => (hok x hx).1.1) (by omega)]
    simp only [Option.bind_some]
    by_cases hz : leadId (lead none l) = 0
    · rw [if_neg (by simp [hz]), hz]
      rfl
    · rw [if_pos (by simp [hz]), decide_eq_true (by omega)]

-- draws
theorem wraps_u64 (n : Int) (h₀ : 0 ≤ n) (h₁ : n < 2 ^ 24) : IntKind.u64.wrap n = n := by
  have h : n < 16777216 := h₁
  rw [IntKind.wrap_u64]
  omega
theorem letterOf (y : Int) : 0 ≤ wrap64 (Go.bits .and .u64 (IntKind.u64.wrap y / 1099511627776) 255) ∧ wrap64 (Go.bits .and .u64 (IntKind.u64.wrap y / 1099511627776) 255) ≤ 255 := by
  have hw := IntKind.wrap_u64 y
  have e : Go.bits .and .u64 (IntKind.u64.wrap y / 1099511627776) 255 = (IntKind.u64.wrap y / 1099511627776) % 256 :=
    bits_mask .u64 24 (by decide) wraps_u64 8 (by decide) _ (by omega) (by show _ < (16777216 : Int); omega)
  rw [e, w64 (by omega) (by omega)]
  omega
/-- The bytes that a drawer reads. -/
def Drawn (l : List Int) : Prop := (∀ x ∈ l, 0 ≤ x ∧ x ≤ 255) ∧ l.length ≤ 1125899906842624
theorem draw_next (l : List Int) (hl : Drawn l) (p st : Int) (h0 : 0 ≤ p) (h1 : p ≤ 1125899906842624) : ∃ v q, spec_l1Cur_next.f l p st = some (v, p + 1, q) ∧ 0 ≤ v ∧ v ≤ 255 := by
  obtain ⟨hl, hn⟩ := hl
  unfold spec_l1Cur_next.f
  rw [w64 (x := p + 1) (by omega) (by omega)]
  by_cases h : p < (l.length : Int)
  · have hm := hl _ (rd_mem l p.toNat (by omega))
    rw [Int.toNat_of_nonneg h0] at hm
    rw [if_pos h, if_pos h0, if_pos (by omega), w64 (x := rd l p) (by omega) (by omega)]
    exact ⟨_, _, rfl, hm⟩
  · rw [if_neg h, if_neg (by omega)]
    exact ⟨_, _, rfl, letterOf _⟩
theorem draw_pick (l : List Int) (hl : Drawn l) (p st n : Int) (h0 : 0 ≤ p) (h1 : p ≤ 1000000000000) (hn : 1 ≤ n) : ∃ v p' q, spec_l1Cur_pick.f l p st n = some (v, p', q) ∧ (0 ≤ v ∧ v < n) ∧ p ≤ p' ∧ p' ≤ p + 2 := by
  unfold spec_l1Cur_pick.f
  by_cases h : n ≤ 1
  · rw [if_pos h]
    exact ⟨_, _, _, rfl, by omega, by omega, by omega⟩
  · obtain ⟨a, q, e, ha⟩ := draw_next l hl p st h0 (by omega)
    rw [if_neg h, e]
    simp only [Option.bind_some]
    by_cases h2 : n > 200
    · obtain ⟨b, q2, e2, hb⟩ := draw_next l hl (p + 1) q (by omega) (by omega)
      rw [if_pos h2, e2]
      simp only [Option.bind_some]
      rw [if_neg (by omega), w64 (x := a * 256) (by omega) (by omega), w64 (by omega) (by omega), tm (by omega)]
      exact ⟨_, _, _, rfl, ⟨Int.emod_nonneg _ (by omega), Int.emod_lt_of_pos _ (by omega)⟩, by omega, by omega⟩
    · rw [if_neg h2, if_neg (by omega), tm (by omega)]
      exact ⟨_, _, _, rfl, ⟨Int.emod_nonneg _ (by omega), Int.emod_lt_of_pos _ (by omega)⟩, by omega, by omega⟩
theorem draw_among (l : List Int) (hl : Drawn l) (p st : Int) (m : List Int) (h0 : 0 ≤ p) (h1 : p ≤ 1000000000000) (hm : 1 ≤ m.length) : ∃ v p' q, spec_l1Cur_among.f l p st m = some (v, p', q) ∧ v ∈ m ∧ p ≤ p' ∧ p' ≤ p + 2 := by
  obtain ⟨v, p', q, e, hv, hp⟩ := draw_pick l hl p st (m.length : Int) h0 h1 (by omega)
  unfold spec_l1Cur_among.f
  rw [e]
  simp only [Option.bind_some]
  rw [if_pos hv.1, if_pos hv.2]
  refine ⟨_, _, _, rfl, ?_, hp⟩
  have := rd_mem m v.toNat (by omega)
  rwa [Int.toNat_of_nonneg hv.1] at this

-- drawone
theorem draw_one (l : List Int) (hl : Drawn l) (p st n : Int) (h0 : 0 ≤ p) (h1 : p ≤ 1000000000000) (hn : 1 ≤ n) : ∃ b p' q, spec_l1Cur_one.f l p st n = some (b, p', q) ∧ p ≤ p' ∧ p' ≤ p + 2 := by
  obtain ⟨v, p', q, e, _, hp⟩ := draw_pick l hl p st n h0 h1 hn
  unfold spec_l1Cur_one.f
  rw [e]
  exact ⟨_, _, _, rfl, hp⟩

-- drawbridges(35)
theorem draw_bridges2 (l : List Int) (hl : Drawn l) (x : List S35) (hx : x.length ≤ 11) (o : Bool) (ho : o = true → 0 < x.length) (p st : Int) (h0 : 0 ≤ p) (h1 : p ≤ 100000) :
    ∃ r p' q, (∀ k, spec_l1Cur_bridges.j2 (k + 1) x o l p st = some (r, p', q)) ∧ r.length ≤ 11 ∧ p ≤ p' ∧ p' ≤ p + 4 := by
  cases o
  · refine ⟨x, p, st, fun k => ?_, hx, by omega, by omega⟩
    rw [spec_l1Cur_bridges.j2, if_neg (by decide)]
  · obtain ⟨a, p1, q1, e1, _, hp1⟩ := draw_among l hl p st [0, 1, 1000, 1001] h0 (by omega) (by simp)
    obtain ⟨b, p2, q2, e2, _, hp2⟩ := draw_among l hl p1 q1 [(-1), 0, 127, 128] (by omega) (by omega) (by simp)
    have hx0 := ho rfl
    refine ⟨x.set (0 : Int).toNat (⟨a, b, true⟩ : S35), p2, q2, fun k => ?_, by rw [List.length_set]; exact hx, by omega, by omega⟩
    rw [spec_l1Cur_bridges.j2, if_pos rfl, e1, Option.bind_some, e2, Option.bind_some, if_pos (by omega)]
theorem draw_bridges_l (l : List Int) (hl : Drawn l) (d : Nat) : ∀ (x : List S35) (id p st : Int), x.length + d ≤ 11 → (0 ≤ id ∧ id ≤ 20 * (x.length : Int)) → 0 ≤ p → p + 10 * d ≤ 50000 →
    ∃ r p' q, (∀ k, d + 3 < k → spec_l1Cur_bridges.l0 k x id d l p st = some (r, p', q)) ∧ r.length ≤ 11 ∧ p ≤ p' ∧ p' ≤ p + 10 * d + 10 := by
  induction d with
  | zero =>
    intro x id p st hx hid h0 h1
    by_cases hz : (x.length : Int) > 0
    · obtain ⟨o, p1, q1, e1, hp1⟩ := draw_one l hl p st 20 h0 (by omega) (by omega)
      obtain ⟨r, p2, q2, e2, hr, hp2⟩ := draw_bridges2 l hl x (by omega) o (fun _ => by omega) p1 q1 (by omega) (by omega)
      refine ⟨r, p2, q2, fun k hk => ?_, hr, by omega, by omega⟩
      obtain ⟨k, rfl⟩ : ∃ m, k = m + 2 := ⟨k - 2, by omega⟩
      rw [show k + 2 = (k + 1) + 1 from rfl, spec_l1Cur_bridges.l0, if_neg (by omega), if_pos hz, e1, Option.bind_some]
      exact e2 k
    · obtain ⟨r, p2, q2, e2, hr, hp2⟩ := draw_bridges2 l hl x (by omega) false (fun h => absurd h (by decide)) p st (by omega) (by omega)
      refine ⟨r, p2, q2, fun k hk => ?_, hr, by omega, by omega⟩
      obtain ⟨k, rfl⟩ : ∃ m, k = m + 2 := ⟨k - 2, by omega⟩
      rw [show k + 2 = (k + 1) + 1 from rfl, spec_l1Cur_bridges.l0, if_neg (by omega), if_neg hz]
      exact e2 k
  | succ d ih =>
    intro x id p st hx hid h0 h1
    obtain ⟨a, p1, q1, e1, ha, hp1⟩ := draw_pick l hl p st 20 h0 (by omega) (by omega)
    obtain ⟨b, p2, q2, e2, hb, hp2⟩ := draw_pick l hl p1 q1 4 (by omega) (by omega) (by omega)
    obtain ⟨o, p3, q3, e3, hp3⟩ := draw_one l hl p2 q2 4 (by omega) (by omega) (by omega)
    have hw : wrap64 (id + wrap64 (1 + a)) = id + (1 + a) := by rw [w64 (x := 1 + a) (by omega) (by omega), w64 (by omega) (by omega)]
    have hw2 : wrap64 (((d + 1 : Nat) : Int) - 1) = (d : Int) := by rw [w64 (by omega) (by omega)]; omega
    have hl2 : (x ++ [(⟨id + (1 + a), b, !o⟩ : S35)]).length = x.length + 1 := by rw [List.length_append, List.length_singleton]
    obtain ⟨r, p4, q4, e4, hr, hp4⟩ := ih (x ++ [⟨id + (1 + a), b, !o⟩]) (id + (1 + a)) p3 q3 (by omega) (by omega) (by omega) (by omega)
    refine ⟨r, p4, q4, fun k hk => ?_, hr, by omega, by omega⟩
    obtain ⟨k, rfl⟩ : ∃ m, k = m + 1 := ⟨k - 1, by omega⟩
    rw [spec_l1Cur_bridges.l0, if_pos (by omega), e1, Option.bind_some, e2, Option.bind_some, e3, Option.bind_some, if_pos (by omega)]
    dsimp only
    rw [hw, hw2]
    exact e4 k (by omega)
theorem draw_bridges (l : List Int) (hl : Drawn l) : ∃ (r : List S35) (p' q : Int), (∀ k, 30 < k → spec_l1Cur_bridges.f k l 0 0 = some (r, p', q)) ∧ r.length ≤ 11 ∧ 0 ≤ p' ∧ p' ≤ 1000 := by
  obtain ⟨n, p1, q1, e1, hn, hp1⟩ := draw_pick l hl 0 0 7 (by omega) (by omega) (by omega)
  obtain ⟨o, p2, q2, e2, hp2⟩ := draw_one l hl p1 q1 20 (by omega) (by omega) (by omega)
  cases o
  · obtain ⟨r, p3, q3, e3, hr, hp3⟩ := draw_bridges_l l hl (1 + n).toNat [] 0 p2 q2 (by simp; omega) (by simp) (by omega) (by omega)
    have hc : ((1 + n).toNat : Int) = 1 + n := Int.toNat_of_nonneg (by omega)
    have hw : wrap64 (1 + n) = 1 + n := w64 (by omega) (by omega)
    rw [hc] at e3
    refine ⟨r, p3, q3, fun k hk => ?_, hr, by omega, by omega⟩
    obtain ⟨k, rfl⟩ : ∃ m, k = m + 1 := ⟨k - 1, by omega⟩
    unfold spec_l1Cur_bridges.f
    rw [e1, Option.bind_some, e2, Option.bind_some]
    dsimp only
    rw [if_neg (by decide), hw, spec_l1Cur_bridges.j0]
    exact e3 k (by omega)
  · obtain ⟨m, p3, q3, e3, hm, hp3⟩ := draw_among l hl p2 q2 [0, 10, 11] (by omega) (by omega) (by simp)
    have hm2 : 0 ≤ m ∧ m ≤ 11 := by
      simp only [List.mem_cons, List.not_mem_nil, or_false] at hm
      omega
    obtain ⟨r, p4, q4, e4, hr, hp4⟩ := draw_bridges_l l hl m.toNat [] 0 p3 q3 (by simp; omega) (by simp) (by omega) (by omega)
    have hc : (m.toNat : Int) = m := Int.toNat_of_nonneg (by omega)
    rw [hc] at e4
    refine ⟨r, p4, q4, fun k hk => ?_, hr, by omega, by omega⟩
    obtain ⟨k, rfl⟩ : ∃ m, k = m + 1 := ⟨k - 1, by omega⟩
    unfold spec_l1Cur_bridges.f
    rw [e1, Option.bind_some, e2, Option.bind_some]
    dsimp only
    rw [if_pos rfl, e3, Option.bind_some, spec_l1Cur_bridges.j0]
    exact e4 k (by omega)

-- drawid(35)
theorem draw_id0 (l : List Int) (hl : Drawn l) (x : List S35) (hx : x.length ≤ 11) (o : Bool) (ho : o = false → 0 < x.length) (p st : Int) (h0 : 0 ≤ p) (h1 : p ≤ 100000) :
    ∃ v p' q, (∀ k, spec_l1Cur_someId.j0 (k + 1) x o l p st = some (v, p', q)) ∧ p ≤ p' ∧ p' ≤ p + 2 := by
  cases o
  · obtain ⟨v, p1, q1, e1, hv, hp1⟩ := draw_pick l hl p st (x.length : Int) h0 (by omega) (by have := ho rfl; omega)
    refine ⟨(rd_T35 x v).f0, p1, q1, fun k => ?_, by omega, by omega⟩
    rw [spec_l1Cur_someId.j0, if_neg (by decide), e1, Option.bind_some, if_pos hv.1, if_pos hv.2]
  · obtain ⟨v, p1, q1, e1, hv, hp1⟩ := draw_pick l hl p st 9 h0 (by omega) (by omega)
    refine ⟨v, p1, q1, fun k => ?_, by omega, by omega⟩
    rw [spec_l1Cur_someId.j0, if_pos rfl, e1]
    rfl
theorem draw_id (l : List Int) (hl : Drawn l) (x : List S35) (hx : x.length ≤ 11) (p st : Int) (h0 : 0 ≤ p) (h1 : p ≤ 50000) : ∃ v p' q, (∀ k, spec_l1Cur_someId.f (k + 1) l p st x = some (v, p', q)) ∧ p ≤ p' ∧ p' ≤ p + 4 := by
  by_cases hz : (x.length : Int) = 0
  · obtain ⟨v, p1, q1, e1, hp1⟩ := draw_id0 l hl x hx true (fun h => absurd h (by decide)) p st h0 (by omega)
    refine ⟨v, p1, q1, fun k => ?_, by omega, by omega⟩
    unfold spec_l1Cur_someId.f
    rw [if_pos hz]
    exact e1 k
  · obtain ⟨o, p1, q1, e1, hp1⟩ := draw_one l hl p st 8 h0 (by omega) (by omega)
    obtain ⟨v, p2, q2, e2, hp2⟩ := draw_id0 l hl x hx o (fun _ => by omega) p1 q1 (by omega) (by omega)
    refine ⟨v, p2, q2, fun k => ?_, by omega, by omega⟩
    unfold spec_l1Cur_someId.f
    rw [if_neg hz, e1, Option.bind_some]
    exact e2 k

-- who serves, with one bridge less
theorem bestS_app (g : Int) : ∀ (A B : List S35) (b : Int), bestS g b (A ++ B) = bestS g (bestS g b A) B
  | [], _, _ => rfl
  | x :: A, B, b => by
    rw [List.cons_append, bestS, bestS]
    exact bestS_app g A B _
theorem bestS_mem (g : Int) : ∀ (r : List S35) (b : Int), bestS g b r = b ∨ ∃ x ∈ r, x.f2 = true ∧ x.f0 = bestS g b r
  | [], _ => .inl rfl
  | x :: r, b => by
    rw [bestS]
    by_cases h : x.f2 = true ∧ (b = 0 ∨ sc x.f0 g > sc b g)
    · rw [if_pos h]
      rcases bestS_mem g r x.f0 with e | ⟨y, hy, e⟩
      · exact .inr ⟨x, List.mem_cons_self, h.1, e.symm⟩
      · exact .inr ⟨y, List.mem_cons_of_mem _ hy, e⟩
    · rw [if_neg h]
      rcases bestS_mem g r b with e | ⟨y, hy, e⟩
      · exact .inl e
      · exact .inr ⟨y, List.mem_cons_of_mem _ hy, e⟩
theorem bestS_two (g id : Int) (hid : id ≠ 0) : ∀ (r : List S35) (b b' : Int), (b = b' ∨ (b = id ∧ (b' = 0 ∨ sc b' g ≤ sc id g))) → bestS g b r = bestS g b' r ∨ bestS g b r = id
  | [], b, b', h => by
    rcases h with h | h
    · exact .inl h
    · exact .inr h.1
  | x :: r, b, b', h => by
    rw [bestS, bestS]
    rcases h with rfl | ⟨rfl, h⟩
    · exact .inl rfl
    · refine bestS_two g b hid r _ _ ?_
      by_cases h1 : x.f2 = true ∧ (b = 0 ∨ sc x.f0 g > sc b g)
      · have h2 : x.f2 = true ∧ (b' = 0 ∨ sc x.f0 g > sc b' g) := ⟨h1.1, by
          rcases h with h | h
          · exact .inl h
          · rcases h1.2 with h3 | h3
            · exact absurd h3 hid
            · exact .inr (by omega)⟩
        rw [if_pos h1, if_pos h2]
        exact .inl rfl
      · rw [if_neg h1]
        refine .inr ⟨rfl, ?_⟩
        by_cases h2 : x.f2 = true ∧ (b' = 0 ∨ sc x.f0 g > sc b' g)
        · rw [if_pos h2]
          refine .inr ?_
          have h3 : ¬ (b = 0 ∨ sc x.f0 g > sc b g) := fun e => h1 ⟨h2.1, e⟩
          have h4 : ¬ sc x.f0 g > sc b g := fun e => h3 (.inr e)
          omega
        · rw [if_neg h2]
          exact h
theorem upB_app : ∀ (A : List S35) (y : S35) (B : List S35) (p : Int), upB p (A ++ y :: B) = true → (∀ x ∈ A, x.f0 < y.f0) ∧ ∀ x ∈ B, y.f0 < x.f0
  | [], y, B, p, h => by
    refine ⟨fun x hx => absurd hx List.not_mem_nil, fun x hx => ?_⟩
    rw [List.nil_append, upB, Bool.and_eq_true, Bool.and_eq_true] at h
    exact (upB_ok B y.f0 h.2.2 x hx).2
  | a :: A, y, B, p, h => by
    rw [List.cons_append, upB, Bool.and_eq_true, Bool.and_eq_true] at h
    obtain ⟨h1, h2⟩ := upB_app A y B a.f0 h.2.2
    refine ⟨fun x hx => ?_, h2⟩
    rcases List.mem_cons.1 hx with rfl | hx
    · exact (upB_ok _ x.f0 h.2.2 y (by simp)).2
    · exact h1 x hx
theorem split_at (l : List S35) (i : Nat) (h : i < l.length) : l = l.take i ++ rd_T35 l i :: l.drop (i + 1) := by
  rw [← drop_B l i h, List.take_append_drop]
theorem set_split (l : List S35) (i : Nat) (h : i < l.length) (z : S35) : l.set i z = l.take i ++ z :: l.drop (i + 1) := by
  rw [List.set_eq_take_append_cons_drop, if_pos h]
/-- A group is served by a bridge just if it moves when that one goes. -/
theorem serves_iff (l : List S35) (hg : upB 0 l = true) (i : Nat) (h : i < l.length) (hu : (rd_T35 l i).f2 = true) (g : Int) : bestS g 0 l = (rd_T35 l i).f0 ↔ bestS g 0 l ≠ bestS g 0 (downB l i) := by
  have hs := split_at l i h
  have hd : downB l i = l.take i ++ ⟨(rd_T35 l i).f0, (rd_T35 l i).f1, false⟩ :: l.drop (i + 1) := by
    unfold downB
    rw [Int.toNat_natCast]
    exact set_split l i h _
  have hpos : 0 < (rd_T35 l i).f0 := (upB_ok l 0 hg _ (by rw [rd_T35_at l i h]; exact List.getElem_mem _)).2
  rw [hs] at hg
  obtain ⟨hA, hB⟩ := upB_app _ _ _ _ hg
  generalize rd_T35 l i = y at *
  generalize l.take i = A at *
  generalize l.drop (i + 1) = B at *
  rw [hd]
  clear hd
  subst hs
  have e1 : bestS g 0 (A ++ y :: B) = bestS g (if y.f2 = true ∧ (bestS g 0 A = 0 ∨ sc y.f0 g > sc (bestS g 0 A) g) then y.f0 else bestS g 0 A) B := by rw [bestS_app, bestS]
  have e2 : bestS g 0 (A ++ ⟨y.f0, y.f1, false⟩ :: B) = bestS g (bestS g 0 A) B := by
    rw [bestS_app, bestS, if_neg (fun e => Bool.false_ne_true e.1)]
  constructor
  · intro he hc
    rw [he] at hc
    rcases bestS_mem g (A ++ ⟨y.f0, y.f1, false⟩ :: B) 0 with h0 | ⟨x, hx, hx2, hx0⟩
    · omega
    · rcases List.mem_append.1 hx with hx | hx
      · have := hA x hx
        omega
      · rcases List.mem_cons.1 hx with rfl | hx
        · exact Bool.false_ne_true hx2
        · have := hB x hx
          omega
  · intro hne
    rw [e1, e2] at hne
    rw [e1]
    by_cases hc : y.f2 = true ∧ (bestS g 0 A = 0 ∨ sc y.f0 g > sc (bestS g 0 A) g)
    · rw [if_pos hc] at hne ⊢
      rcases bestS_two g y.f0 (by omega) B y.f0 (bestS g 0 A) (.inr ⟨rfl, by
        rcases hc.2 with h | h
        · exact .inl h
        · exact .inr (by omega)⟩) with h | h
      · exact absurd h hne
      · exact h
    · rw [if_neg hc] at hne
      exact absurd rfl hne
theorem rd_svs (l : List S35) : ∀ (d g i : Nat), i < d → rd (svs l g d) i = bestS ((g + i : Nat) : Int) 0 l
  | 0, _, _, h => absurd h (by omega)
  | d + 1, g, 0, _ => by simp [svs, rd]
  | d + 1, g, i + 1, h => by
    have := rd_svs l d (g + 1) i (by omega)
    have e : rd (svs l g (d + 1)) ((i + 1 : Nat) : Int) = rd (svs l (g + 1) d) (i : Nat) := by simp [svs, rd]
    rw [e, this, show g + 1 + i = g + (i + 1) by omega]
theorem dif_mem (a b : List Int) (n : Nat) : ∀ (d j : Nat), (n : Int) ∈ dif a b j d ↔ (j ≤ n ∧ n < j + d) ∧ rd a n ≠ rd b n
  | 0, j => by simp [dif]; omega
  | d + 1, j => by
    rw [dif, List.mem_append, dif_mem a b n d (j + 1)]
    by_cases h : rd a j = rd b j
    · rw [if_pos h]
      constructor
      · rintro (h1 | h1)
        · exact absurd h1 List.not_mem_nil
        · exact ⟨by omega, h1.2⟩
      · rintro ⟨h1, h2⟩
        refine .inr ⟨⟨?_, by omega⟩, h2⟩
        rcases Nat.lt_or_ge j n with h3 | h3
        · omega
        · exfalso
          have : n = j := by omega
          subst this
          exact h2 h
    · rw [if_neg h, List.mem_singleton]
      constructor
      · rintro (h1 | h1)
        · have : n = j := by omega
          subst this
          exact ⟨by omega, h⟩
        · exact ⟨by omega, h1.2⟩
      · rintro ⟨h1, h2⟩
        rcases Nat.lt_or_ge j n with h3 | h3
        · exact .inr ⟨by omega, h2⟩
        · exact .inl (by omega)
theorem has_l (l : List Int) (n : Int) (hn : l.length ≤ 1000000) (d : Nat) : ∀ (k i : Nat), i + d = l.length → d < k → laws_has.l0 k n l l.length i = some (decide (n ∈ l.drop i)) := by
  induction d with
  | zero =>
    intro k i h hk
    obtain ⟨k, rfl⟩ : ∃ m, k = m + 1 := ⟨k - 1, by omega⟩
    rw [laws_has.l0, if_neg (by omega), List.drop_of_length_le (by omega)]
    simp
  | succ d ih =>
    intro k i h hk
    obtain ⟨k, rfl⟩ : ∃ m, k = m + 1 := ⟨k - 1, by omega⟩
    rw [laws_has.l0, if_pos (by omega), if_pos (by omega), if_pos (by omega), drop_i l i (by omega)]
    by_cases e : rd l i = n
    · rw [if_pos e, e]
      simp
    · rw [if_neg e, wi i (by omega), ih k (i + 1) (by omega) (by omega)]
      have e2 : ¬ n = rd l i := fun h => e h.symm
      simp [e2]
theorem has_is (l : List Int) (n : Int) (k : Nat) (hn : l.length ≤ 1000000) (hk : l.length < k) : laws_has.f k l n = some (decide (n ∈ l)) := by
  have := has_l l n hn l.length k 0 (by omega) hk
  rw [List.drop_zero] at this
  exact this
theorem sameI_l (a : List Int) (hn : a.length ≤ 1000000) (d : Nat) : ∀ (k i : Nat), i + d = a.length → d < k → laws_sameInts.l0 k a a a.length i = some true := by
  induction d with
  | zero =>
    intro k i h hk
    obtain ⟨k, rfl⟩ : ∃ m, k = m + 1 := ⟨k - 1, by omega⟩
    rw [laws_sameInts.l0, if_neg (by omega)]
  | succ d ih =>
    intro k i h hk
    obtain ⟨k, rfl⟩ : ∃ m, k = m + 1 := ⟨k - 1, by omega⟩
    rw [laws_sameInts.l0, if_pos (by omega), if_pos (by omega), if_pos (by omega), if_pos (by omega), if_pos rfl, wi i (by omega)]
    exact ih k (i + 1) (by omega) (by omega)
theorem sameI (a : List Int) (k : Nat) (hn : a.length ≤ 1000000) (hk : a.length < k) : laws_sameInts.f k a a = some true := by
  unfold laws_sameInts.f
  rw [if_pos rfl]
  exact sameI_l a hn a.length k 0 (by omega) hk
theorem sameB_l (a : List S35) (hn : a.length ≤ 1000000) (d : Nat) : ∀ (k i : Nat), i + d = a.length → d < k → laws_sameBridges.l0 k a a a.length i = some true := by
  induction d with
  | zero =>
    intro k i h hk
    obtain ⟨k, rfl⟩ : ∃ m, k = m + 1 := ⟨k - 1, by omega⟩
    rw [laws_sameBridges.l0, if_neg (by omega)]
  | succ d ih =>
    intro k i h hk
    obtain ⟨k, rfl⟩ : ∃ m, k = m + 1 := ⟨k - 1, by omega⟩
    rw [laws_sameBridges.l0, if_pos (by omega), if_pos (by omega), if_pos (by omega), if_pos (by omega), if_neg (by simp), wi i (by omega)]
    exact ih k (i + 1) (by omega) (by omega)
theorem sameB (a : List S35) (k : Nat) (hn : a.length ≤ 1000000) (hk : a.length < k) : laws_sameBridges.f k a a = some true := by
  unfold laws_sameBridges.f
  rw [if_pos rfl]
  exact sameB_l a hn a.length k 0 (by omega) hk
-- who leads, behind a rank of 127
theorem lead_app : ∀ (A B : List S35) (o : Option S35), lead o (A ++ B) = lead (lead o A) B
  | [], _, o => by cases o <;> rfl
  | x :: A, B, none => by
    rw [List.cons_append, lead, lead]
    exact lead_app A B _
  | x :: A, B, some b => by
    rw [List.cons_append, lead, lead]
    exact lead_app A B _
theorem lead_stays (b : S35) : ∀ r : List S35, (∀ x ∈ r, x.f2 = true → btB x b = false) → lead (some b) r = some b
  | [], _ => rfl
  | x :: r, h => by
    have hx := h x List.mem_cons_self
    rw [lead, if_neg (fun e => by rw [hx e.1] at e; exact Bool.false_ne_true e.2)]
    exact lead_stays b r fun y hy => h y (List.mem_cons_of_mem _ hy)
theorem lead_mem : ∀ (r : List S35) (o : Option S35), lead o r = o ∨ ∃ x ∈ r, x.f2 = true ∧ lead o r = some x
  | [], o => by cases o <;> exact .inl rfl
  | x :: r, none => by
    rw [lead]
    by_cases h : x.f2 = true
    · rw [if_pos h]
      rcases lead_mem r (some x) with e | ⟨y, hy, e⟩
      · exact .inr ⟨x, List.mem_cons_self, h, e⟩
      · exact .inr ⟨y, List.mem_cons_of_mem _ hy, e⟩
    · rw [if_neg h]
      rcases lead_mem r none with e | ⟨y, hy, e⟩
      · exact .inl e
      · exact .inr ⟨y, List.mem_cons_of_mem _ hy, e⟩
  | x :: r, some b => by
    rw [lead]
    by_cases h : x.f2 = true ∧ btB x b = true
    · rw [if_pos h]
      rcases lead_mem r (some x) with e | ⟨y, hy, e⟩
      · exact .inr ⟨x, List.mem_cons_self, h.1, e⟩
      · exact .inr ⟨y, List.mem_cons_of_mem _ hy, e⟩
    · rw [if_neg h]
      rcases lead_mem r (some b) with e | ⟨y, hy, e⟩
      · exact .inl e
      · exact .inr ⟨y, List.mem_cons_of_mem _ hy, e⟩
theorem lead_top (A B : List S35) (y : S35) (hy : y.f2 = true) (hA : ∀ x ∈ A, x.f2 = true → btB y x = true) (hB : ∀ x ∈ B, x.f2 = true → btB x y = false) : lead none (A ++ y :: B) = some y := by
  rw [lead_app]
  rcases lead_mem A none with e | ⟨x, hx, hx2, e⟩
  · rw [e, lead, if_pos hy]
    exact lead_stays y B hB
  · rw [e, lead, if_pos ⟨hy, hA x hx hx2⟩]
    exact lead_stays y B hB
theorem fnd_hit (id : Int) : ∀ (l : List S35) (i : Nat), ¬ fnd (idB id) l i < 0 → ∃ j : Nat, fnd (idB id) l i = ((i + j : Nat) : Int) ∧ j < l.length ∧ (rd_T35 l j).f0 = id
  | [], i, h => absurd (by simp [fnd]) h
  | x :: l, i, h => by
    unfold fnd at h ⊢
    by_cases e : idB id x = true
    · rw [if_pos e]
      exact ⟨0, by simp, by simp, by simpa [rd_T35, idB] using e⟩
    · rw [if_neg e] at h ⊢
      rw [show (i : Int) + 1 = ((i + 1 : Nat) : Int) by omega] at h ⊢
      obtain ⟨j, h1, h2, h3⟩ := fnd_hit id l (i + 1) h
      exact ⟨j + 1, by rw [h1]; omega, by rw [List.length_cons]; omega, by simpa [rd_T35] using h3⟩
theorem upB_set : ∀ (A : List S35) (y : S35) (B : List S35) (p n : Int), 0 ≤ n ∧ n ≤ 127 → upB p (A ++ y :: B) = true → upB p (A ++ ⟨y.f0, n, y.f2⟩ :: B) = true
  | [], y, B, p, n, hn, h => by
    rw [List.nil_append, upB, Bool.and_eq_true] at h ⊢
    refine ⟨?_, h.2⟩
    have := of_decide_eq_true h.1
    exact decide_eq_true ⟨this.1, hn⟩
  | a :: A, y, B, p, n, hn, h => by
    rw [List.cons_append, upB, Bool.and_eq_true, Bool.and_eq_true] at h ⊢
    exact ⟨h.1, h.2.1, upB_set A y B a.f0 n hn h.2.2⟩
/-- Who is up, and the only one with the rank 127, leads. -/
theorem ranked_leads (l : List S35) (id : Int) (hg : goodB l = true) (hf : ¬ fnd (idB id) l 0 < 0)
    (hu : ((setR l id 127).1.any fun x => x.f0 == id && x.f2) = true) (hv : ((setR l id 127).1.any fun x => x.f0 != id && (x.f2 && x.f1 == 127)) = false) : leaderR (setR l id 127).1 = (id, true) := by
  obtain ⟨j, hj, hjl, hjid⟩ := fnd_hit id l 0 hf
  rw [Nat.zero_add] at hj
  have hg2 := hg
  unfold goodB at hg2
  rw [Bool.and_eq_true, decide_eq_true_eq] at hg2
  have hs := split_at l j hjl
  have hr : (setR l id 127).1 = l.take j ++ ⟨(rd_T35 l j).f0, 127, (rd_T35 l j).f2⟩ :: l.drop (j + 1) := by
    have hj' : fnd (idB id) l 0 = (j : Int) := hj
    unfold setR
    rw [if_pos ⟨hg, hf, by omega⟩, hj', Int.toNat_natCast]
    exact set_split l j hjl _
  have hup := hg2.1
  rw [hs] at hup
  have hup2 := upB_set _ _ _ _ 127 (by omega) hup
  obtain ⟨hA, hB⟩ := upB_app _ _ _ _ hup2
  have hlen : (setR l id 127).1.length = l.length := by
    rw [hr]
    conv => rhs; rw [hs]
    simp only [List.length_append, List.length_cons]
  have hg3 : goodB (setR l id 127).1 = true := by
    unfold goodB
    rw [Bool.and_eq_true, decide_eq_true_eq, hlen]
    exact ⟨by rw [hr]; exact hup2, hg2.2⟩
  have hok := (goodB_ok _ hg3).1
  rw [hr] at hu hv hok
  have hgr := hg3
  rw [hr] at hgr
  rw [hr]
  generalize rd_T35 l j = y at *
  generalize l.take j = A at *
  generalize l.drop (j + 1) = B at *
  have hn : ∀ x ∈ A ++ ⟨y.f0, 127, y.f2⟩ :: B, x.f0 ≠ id → x.f2 = true → x.f1 < 127 := by
    intro x hx hne hx2
    have h1 := (hok x hx).2
    have h2 : ¬ x.f1 = 127 := fun e => by
      rw [List.any_eq_false] at hv
      exact hv x hx (by rw [hx2, e]; simpa using hne)
    omega
  have hy2 : y.f2 = true := by
    obtain ⟨x, hx, hx2⟩ := List.any_eq_true.1 hu
    rw [Bool.and_eq_true, beq_iff_eq] at hx2
    rcases List.mem_append.1 hx with h | h
    · have := hA x h
      simp only at this
      omega
    · rcases List.mem_cons.1 h with rfl | h
      · exact hx2.2
      · have := hB x h
        simp only at this
        omega
  have hl : lead none (A ++ ⟨y.f0, 127, y.f2⟩ :: B) = some ⟨y.f0, 127, y.f2⟩ := by
    refine lead_top A B _ hy2 (fun x hx hx2 => ?_) (fun x hx hx2 => ?_)
    · have h1 := hA x hx
      have h2 := hn x (List.mem_append.2 (.inl hx)) (by simp only at h1; omega) hx2
      exact decide_eq_true (.inl (by simp only; omega))
    · have h1 := hB x hx
      have h2 := hn x (List.mem_append.2 (.inr (List.mem_cons_of_mem _ hx))) (by simp only at h1; omega) hx2
      exact decide_eq_false (by simp only; omega)
  have hpos := (hok ⟨y.f0, 127, y.f2⟩ (by simp)).1.1
  have hid : leadId (lead none (A ++ ⟨y.f0, 127, y.f2⟩ :: B)) = id := by rw [hl]; exact hjid
  simp only at hpos
  unfold leaderR
  rw [hid, if_pos ⟨hgr, by omega⟩]
-- the law's parts
theorem last_part (l1 : List Int) (hl : Drawn l1) : ∃ K, ∀ k, K ≤ k → laws_FnServers.j8 k l1 = some true := by
  obtain ⟨l, p1, q1, e1, hn, hp1⟩ := draw_bridges l1 hl
  obtain ⟨n, p2, q2, e2, _, hp2⟩ := draw_among l1 hl p1 q1 [(-1), 0, 3, 12, 40, 41] (by omega) (by omega) (by simp)
  obtain ⟨K1, h1⟩ := spec_ServersOf_f l (by omega) n
  obtain ⟨K2, h2⟩ := impl_ServersOf_f l (by omega) n
  have hrl := serversR_len l n
  replace h1 : ∀ k, K1 ≤ k → spec_ServersOf.f k l n = some (serversR l n) := h1
  replace h2 : ∀ k, K2 ≤ k → impl_ServersOf.f k l n = some (serversR l n) := h2
  refine ⟨K1 + K2 + 100, fun k hk => ?_⟩
  obtain ⟨k, rfl⟩ : ∃ m, k = m + 1 := ⟨k - 1, by omega⟩
  have hD : spec_DrawServersOf.f k l1 = some (l, n) := by
    unfold spec_DrawServersOf.f
    rw [e1 k (by omega), Option.bind_some, e2]
    rfl
  rw [laws_FnServers.j8, hD, Option.bind_some, h1 k (by omega), h2 k (by omega), Option.bind_some, Option.bind_some, beq_self_eq_true, if_pos rfl, sameI _ k (by omega) (by omega)]
  rfl
theorem flags_l (l1 : List Int) (id n : Int) (four : Bool) (r : List S35) (hn : r.length ≤ 1000) (K : Nat) (hK : ∀ k, K ≤ k → laws_FnServers.j8 k l1 = some true) (d : Nat) :
    ∀ (i : Nat) (u v : Bool) (k : Nat), i + d = r.length → d + K + 5 < k → ((u || (r.drop i).any fun x => x.f0 == id && x.f2) = true → (v || (r.drop i).any fun x => x.f0 != id && (x.f2 && x.f1 == 127)) = false → four = true ∧ n = id) →
    laws_FnServers.l1 k l1 id n four u v r r.length i = some true := by
  induction d with
  | zero =>
    intro i u v k hi hk h
    obtain ⟨k, rfl⟩ : ∃ m, k = m + 2 := ⟨k - 2, by omega⟩
    rw [List.drop_of_length_le (by omega), List.any_nil, List.any_nil, Bool.or_false, Bool.or_false] at h
    have j7 : laws_FnServers.j7 (k + 1) l1 false = some true := by
      rw [laws_FnServers.j7, if_neg (by decide)]
      exact hK k (by omega)
    rw [show k + 2 = (k + 1) + 1 from rfl, laws_FnServers.l1, if_neg (by omega)]
    cases u
    · rw [if_neg (by decide)]
      exact j7
    · rw [if_pos rfl]
      cases v
      · obtain ⟨h1, h2⟩ := h rfl rfl
        rw [if_neg (by decide), h1, if_pos rfl, h2, bne_self_eq_false]
        exact j7
      · rw [if_pos rfl]
        exact j7
  | succ d ih =>
    intro i u v k hi hk h
    obtain ⟨k, rfl⟩ : ∃ m, k = m + 1 := ⟨k - 1, by omega⟩
    rw [drop_B r i (by omega), List.any_cons, List.any_cons] at h
    rw [laws_FnServers.l1, if_pos (by omega), if_pos (by omega), if_pos (by omega), wi i (by omega)]
    generalize rd_T35 r i = x at h
    have go : ∀ u' v', (u' = (u || (x.f0 == id && x.f2))) → (v' = (v || (x.f0 != id && (x.f2 && x.f1 == 127)))) → laws_FnServers.l1 k l1 id n four u' v' r r.length ((i + 1 : Nat) : Int) = some true := by
      intro u' v' hu hv
      refine ih (i + 1) u' v' k (by omega) (by omega) ?_
      rw [hu, hv, Bool.or_assoc, Bool.or_assoc]
      exact h
    cases u
    · rw [if_neg (by decide)]
      by_cases e : x.f0 = id
      · rw [if_pos e]
        cases v
        · rw [if_neg (by decide)]
          exact go _ _ (by simp [e]) (by simp [e])
        · rw [if_pos rfl]
          exact go _ _ (by simp [e]) (by simp)
      · rw [if_neg e]
        cases v
        · rw [if_neg (by decide)]
          cases hx : x.f2
          · rw [if_neg (by decide)]
            exact go _ _ (by simp [hx]) (by simp [hx])
          · rw [if_pos rfl]
            exact go _ _ (by simp [e]) (by simp [hx, e])
        · rw [if_pos rfl]
          exact go _ _ (by simp [e]) (by simp)
    · rw [if_pos rfl]
      cases v
      · rw [if_neg (by decide)]
        by_cases e : x.f0 = id
        · rw [if_pos e]
          exact go _ _ (by simp) (by simp [e])
        · rw [if_neg e]
          cases hx : x.f2
          · rw [if_neg (by decide)]
            exact go _ _ (by simp) (by simp [hx])
          · rw [if_pos rfl]
            exact go _ _ (by simp) (by simp [hx, e])
      · rw [if_pos rfl]
        exact go _ _ (by simp) (by simp)
theorem rank_part (l1 : List Int) (hl : Drawn l1) : ∃ K, ∀ k, K ≤ k → laws_FnServers.j3 k l1 = some true := by
  obtain ⟨K, hK⟩ := last_part l1 hl
  obtain ⟨l, p1, q1, e1, hn, hp1⟩ := draw_bridges l1 hl
  obtain ⟨id, p2, q2, e2, hp2⟩ := draw_id l1 hl l hn p1 q1 (by omega) (by omega)
  obtain ⟨n, p3, q3, e3, _, hp3⟩ := draw_among l1 hl p2 q2 [(-1), 0, 3, 127, 128] (by omega) (by omega) (by simp)
  have hrl : (setR l id n).1.length ≤ 11 := by
    unfold setR
    split
    · show (l.set _ _).length ≤ 11
      rw [List.length_set]
      exact hn
    · simp
  refine ⟨K + 200, fun k hk => ?_⟩
  obtain ⟨k, rfl⟩ : ∃ m, k = m + 3 := ⟨k - 3, by omega⟩
  have hD : spec_DrawSetRank.f (k + 2) l1 = some (l, id, n) := by
    unfold spec_DrawSetRank.f
    rw [e1 _ (by omega), Option.bind_some, e2 (k + 1), Option.bind_some, e3]
    rfl
  rw [show k + 3 = (k + 2) + 1 from rfl, laws_FnServers.j3, hD, Option.bind_some, impl_SetRank_f l id n _ (by omega) (by omega), spec_SetRank_f l id n _ (by omega) (by omega), Option.bind_some, Option.bind_some, bne_self_eq_false, if_neg (by decide), sameB _ (k + 2) (by omega) (by omega), Option.bind_some, show k + 2 = (k + 1) + 1 from rfl, laws_FnServers.j4, if_neg (by decide)]
  dsimp only
  cases hr : (setR l id n).2
  · rw [if_neg (by decide), laws_FnServers.j5, if_neg (by decide)]
    exact hK _ (by omega)
  · rw [if_pos rfl, laws_FnServers.j5]
    by_cases hz : n = 127
    · subst hz
      have hgood : goodB l = true ∧ ¬ fnd (idB id) l 0 < 0 := by
        unfold setR at hr
        split at hr
        · rename_i h
          exact ⟨h.1, h.2.1⟩
        · exact absurd hr (by decide)
      rw [beq_self_eq_true, if_pos rfl, impl_LeaderOf_f _ k (by omega) (by omega), Option.bind_some]
      have := flags_l l1 id (leaderR (setR l id 127).1).1 (leaderR (setR l id 127).1).2 (setR l id 127).1 (by omega) K hK (setR l id 127).1.length 0 false false k (by omega) (by omega) (by
        rw [List.drop_zero, Bool.false_or, Bool.false_or]
        intro hu hv
        rw [ranked_leads l id hgood.1 hgood.2 hu hv]
        exact ⟨rfl, rfl⟩)
      exact this
    · rw [show (n == 127) = false from beq_eq_false_iff_ne.2 hz, if_neg (by decide)]
      exact hK _ (by omega)
theorem groups_l (l1 : List Int) (id : Int) (s m : List Int) (hn : s.length ≤ 40) (hm : m.length ≤ 40) (K : Nat) (hK : ∀ k, K ≤ k → laws_FnServers.j3 k l1 = some true) (h : ∀ i : Nat, i < s.length → (rd s i = id ↔ (i : Int) ∈ m)) (d : Nat) :
    ∀ (i k : Nat), i + d = s.length → d + K + 50 < k → laws_FnServers.l0 k l1 id m s s.length i = some true := by
  induction d with
  | zero =>
    intro i k hi hk
    obtain ⟨k, rfl⟩ : ∃ m, k = m + 1 := ⟨k - 1, by omega⟩
    rw [laws_FnServers.l0, if_neg (by omega)]
    exact hK k (by omega)
  | succ d ih =>
    intro i k hi hk
    obtain ⟨k, rfl⟩ : ∃ m, k = m + 1 := ⟨k - 1, by omega⟩
    have hi2 := h i (by omega)
    have e : ((rd s i == id) != decide ((i : Int) ∈ m)) = false := by
      by_cases c : rd s i = id
      · rw [beq_iff_eq.2 c, decide_eq_true (hi2.1 c)]
        rfl
      · rw [beq_eq_false_iff_ne.2 c, decide_eq_false (fun g => c (hi2.2 g))]
        rfl
    rw [laws_FnServers.l0, if_pos (by omega), if_pos (by omega), if_pos (by omega), has_is m i k (by omega) (by omega), Option.bind_some, e, if_neg (by decide), wi i (by omega)]
    exact ih (i + 1) k (by omega) (by omega)
theorem moved_iff (l : List S35) (id n : Int) (h : (movedR l id n).2 = true) : (serversR l n).2 = true ∧ ((serversR l n).1.length : Int) = n ∧ ∀ i : Nat, i < (serversR l n).1.length → (rd (serversR l n).1 i = id ↔ (i : Int) ∈ (movedR l id n).1) := by
  have hc : goodB l = true ∧ (0 ≤ n ∧ n ≤ 40) ∧ ¬ fnd (idB id) l 0 < 0 ∧ (rd_T35 l (fnd (idB id) l 0)).f2 = true := by
    unfold movedR at h
    split at h
    · rename_i g
      exact g
    · exact absurd h (by decide)
  obtain ⟨hg, hn, hf, hu⟩ := hc
  obtain ⟨j, hj, hjl, hjid⟩ := fnd_hit id l 0 hf
  rw [Nat.zero_add] at hj
  have hj' : fnd (idB id) l 0 = (j : Int) := hj
  have hm : movedR l id n = (dif (svs l 0 n.toNat) (svs (downB l j) 0 n.toNat) 0 n.toNat, true) := by
    unfold movedR
    rw [if_pos ⟨hg, hn, hf, hu⟩, hj']
  have hs : serversR l n = (svs l 0 n.toNat, true) := by
    unfold serversR
    rw [if_pos ⟨hg, hn⟩]
  have hup : upB 0 l = true := by
    unfold goodB at hg
    rw [Bool.and_eq_true] at hg
    exact hg.1
  rw [hj'] at hu
  rw [hm, hs]
  refine ⟨rfl, ?_, fun i hi => ?_⟩
  · show ((svs l 0 n.toNat).length : Int) = n
    rw [svs_len]
    omega
  · have hi2 : i < n.toNat := by
      have : i < (svs l 0 n.toNat).length := hi
      rwa [svs_len] at this
    show rd (svs l 0 n.toNat) i = id ↔ (i : Int) ∈ dif (svs l 0 n.toNat) (svs (downB l j) 0 n.toNat) 0 n.toNat
    rw [dif_mem, rd_svs l _ 0 i hi2, rd_svs (downB l j) _ 0 i hi2, Nat.zero_add, ← hjid, serves_iff l hup j hjl hu]
    exact ⟨fun e => ⟨by omega, e⟩, fun e => e.2⟩
theorem FnServers : laws_FnServers.PureS := by
  intro l m ⟨hl, hl2⟩ ⟨hm, hm2⟩
  have u8 (x : Int) (h : (Lit.int .u8 x).wf = true) : 0 ≤ x ∧ x ≤ 255 := by
    simp [Lit.wf, IntKind.min, IntKind.max, IntKind.signed, IntKind.bits] at h
    omega
  have dl : Drawn l := ⟨fun x hx => u8 x (hl2 x hx), by omega⟩
  have dm : Drawn m := ⟨fun x hx => u8 x (hm2 x hx), by omega⟩
  obtain ⟨K, hK⟩ := rank_part m dm
  obtain ⟨b, p1, q1, e1, hn, hp1⟩ := draw_bridges l dl
  obtain ⟨id, p2, q2, e2, hp2⟩ := draw_id l dl b hn p1 q1 (by omega) (by omega)
  obtain ⟨n, p3, q3, e3, _, hp3⟩ := draw_among l dl p2 q2 [(-1), 0, 3, 12, 40, 41] (by omega) (by omega) (by simp)
  obtain ⟨K1, h1⟩ := spec_ServersOf_f b (by omega) n
  obtain ⟨K2, h2⟩ := impl_ServersOf_f b (by omega) n
  obtain ⟨K3, h3⟩ := spec_Moved_f b id n (by omega)
  obtain ⟨K4, h4⟩ := impl_Moved_f b id n (by omega)
  have hrl := serversR_len b n
  have hml := movedR_len b id n
  replace h1 : ∀ k, K1 ≤ k → spec_ServersOf.f k b n = some (serversR b n) := h1
  replace h2 : ∀ k, K2 ≤ k → impl_ServersOf.f k b n = some (serversR b n) := h2
  replace h3 : ∀ k, K3 ≤ k → spec_Moved.f k b id n = some (movedR b id n) := h3
  replace h4 : ∀ k, K4 ≤ k → impl_Moved.f k b id n = some (movedR b id n) := h4
  obtain ⟨Z, hZ⟩ : ∃ Z, Z = K + K1 + K2 + K3 + K4 + 300 := ⟨_, rfl⟩
  refine ⟨Z + 3, ?_⟩
  have hD : spec_DrawMoved.f (Z + 3) l = some (b, id, n) := by
    unfold spec_DrawMoved.f
    rw [e1 _ (by omega), Option.bind_some, e2 (Z + 2), Option.bind_some, e3]
    rfl
  unfold laws_FnServers.f
  by_cases h0 : wrap64 ((l.length : Int) + (m.length : Int)) > 1048576
  · rw [if_pos h0]
  rw [if_neg h0, hD, Option.bind_some]
  dsimp only
  rw [h1 _ (by omega), h2 _ (by omega), h3 _ (by omega), h4 _ (by omega)]
  simp only [Option.bind_some]
  rw [bne_self_eq_false, if_neg (by decide), sameI (movedR b id n).1 _ (by omega) (by omega), Option.bind_some, if_pos rfl, bne_self_eq_false, if_neg (by decide), sameI (serversR b n).1 _ (by omega) (by omega), Option.bind_some, show Z + 3 = (Z + 2) + 1 from rfl, laws_FnServers.j0, if_neg (by decide)]
  cases hr : (movedR b id n).2
  · rw [if_neg (by decide)]
    exact hK _ (by omega)
  · obtain ⟨g1, g2, g3⟩ := moved_iff b id n hr
    rw [if_pos rfl, g1, if_pos rfl, g2, bne_self_eq_false, show Z + 2 = (Z + 1) + 1 from rfl, laws_FnServers.j1, if_neg (by decide)]
    have := groups_l m id (serversR b n).1 (movedR b id n).1 (by omega) (by omega) K hK g3 (serversR b n).1.length 0 (Z + 1) (by omega) (by omega)
    rw [g2] at this
    rw [g2]
    exact this

end Go.Proofs.Ytgcondmgpcaahaa.Pure
