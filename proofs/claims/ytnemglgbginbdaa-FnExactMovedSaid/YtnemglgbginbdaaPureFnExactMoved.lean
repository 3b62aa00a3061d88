/- FnExactMoved answers true for each list of bridges, each id and each number of groups. No condition beyond the row's own bounds. -/
import Derived.Test.YtnemglgbginbdaaSFnExactMoved
namespace Go.Proofs.Ytnemglgbginbdaa.Pure
open Go.RowKit Go.Proofs.Ytnemglgbginbdaa.PFnExactMoved Go.Proofs.YtnemglgbginbdaaW.PrintWords Go.Proofs.YtnemglgbginbdaaW.PrintLast
set_option linter.unusedVariables false
set_option linter.unusedSimpArgs false

-- w64
theorem w64 {x : Int} (h0 : -9223372036854775808 ≤ x) (h1 : x ≤ 9223372036854775807) : wrap64 x = x := by
  unfold wrap64
  omega
theorem tm {x y : Int} (h0 : 0 ≤ x) : Int.tmod x y = x % y := Int.tmod_eq_emod_of_nonneg h0
theorem wf64 {x : Int} (h : (Lit.int .i64 x).wf = true) : -9223372036854775808 ≤ x ∧ x ≤ 9223372036854775807 := by
  simp [Lit.wf, IntKind.min, IntKind.max, IntKind.signed, IntKind.bits] at h
  omega

-- helps
theorem set_take {α : Type} (m L : List α) (i : Nat) (hi : i < L.length) (hm : m.length = L.length) (ht : m.take i = L.take i) (v : α) (hv : L[i]? = some v) : (m.set i v).take (i + 1) = L.take (i + 1) := by
  rw [List.take_set, List.take_succ_eq_append_getElem (by omega), List.take_succ_eq_append_getElem hi, ht, List.set_append_right _ _ (by rw [List.length_take]; omega)]
  rw [List.length_take, show i - min i L.length = 0 by omega]
  rw [List.getElem?_eq_getElem hi] at hv
  rw [Option.some.inj hv]
  rfl
/-- From some number of rounds on: one number for a pair. -/
theorem ev_at {α : Type} {g : Nat → Option α} {r : α} (h : Ev g r) : ∃ K, ∀ k, K ≤ k → g k = some r := h
theorem ev_some {α : Type} {g : Nat → Option α} {r : α} (h : ∀ k, g k = some r) : Ev g r := ⟨0, fun k _ => h k⟩
theorem ev_ge {α : Type} {g : Nat → Option α} {r : α} (K : Nat) (h : ∀ k, K ≤ k → g k = some r) : Ev g r := ⟨K, h⟩

-- rdt(46)
theorem rd_T46_at (l : List S46) (i : Nat) (h : i < l.length) : rd_T46 l i = l[i] := by
  simp [rd_T46, List.getD_eq_getElem?_getD, List.getElem?_eq_getElem h]

-- goodb(46)
theorem in_same (a b c : Int) : impl_in.f a b c = spec_l1In.f a b c := rfl
theorem bridge_same (a b : Int) (c : Bool) : impl_isBridge.f a b c = spec_l4Bridge.f a b c := rfl
theorem goodb_l : ∀ (k : Nat) (x0 x5 : List S46) (x6 x7 : Int), impl_GoodBridges.l0 k x0 x5 x6 x7 = spec_GoodBridges.l0 k x0 x5 x6 x7
  | 0, _, _, _, _ => rfl
  | k + 1, x0, x5, x6, x7 => by simp only [impl_GoodBridges.l0, spec_GoodBridges.l0, bridge_same, in_same, goodb_l k]
theorem goodb_same (k : Nat) (l : List S46) : impl_GoodBridges.f k l = spec_GoodBridges.f k l := goodb_l k l l _ _
def okB (x : S46) : Bool := decide ((1 ≤ x.f0 ∧ x.f0 ≤ 1000) ∧ 0 ≤ x.f1 ∧ x.f1 ≤ 127)
theorem okB_eq (x : S46) : spec_l4Bridge.f x.f0 x.f1 x.f2 = some (okB x) := by
  unfold spec_l4Bridge.f spec_l1In.f okB
  by_cases h0 : 1 ≤ x.f0
  · by_cases h1 : x.f0 ≤ 1000
    · by_cases h2 : 0 ≤ x.f1
      · simp [h0, h1, h2]
      · simp [h0, h1, h2]
    · simp [h0, h1]
  · simp [h0]
/-- Bridges with rising Ids behind one. -/
def upB (p : Int) : List S46 → Bool
  | [] => true
  | x :: r => okB x && (decide (p < x.f0) && upB x.f0 r)
def goodB (l : List S46) : Bool := upB 0 l && decide (1 ≤ l.length ∧ l.length ≤ 10)
def before (l : List S46) : Nat → Int
  | 0 => 0
  | i + 1 => (rd_T46 l i).f0
theorem drop_B (l : List S46) (i : Nat) (h : i < l.length) : l.drop i = rd_T46 l i :: l.drop (i + 1) := by
  rw [rd_T46_at l i h]
  exact List.drop_eq_getElem_cons h
theorem wi (i : Nat) (h : i ≤ 4611686018427387904) : wrap64 ((i : Int) + 1) = ((i + 1 : Nat) : Int) := by
  rw [w64 (by omega) (by omega)]
  omega
theorem spec_goodB_l (l : List S46) (hn : l.length ≤ 4611686018427387904) (d : Nat) : ∀ (k i : Nat), i + d = l.length → d < k →
    spec_GoodBridges.l0 k l l l.length i = some (upB (before l i) (l.drop i) && decide (1 ≤ l.length ∧ l.length ≤ 10)) := by
  induction d with
  | zero =>
    intro k i h hk
    obtain ⟨k, rfl⟩ : ∃ m, k = m + 1 := ⟨k - 1, by omega⟩
    simp only [spec_GoodBridges.l0, spec_l1In.f]
    rw [if_neg (by omega), List.drop_of_length_le (by omega)]
    simp only [upB, Bool.true_and]
    by_cases h1 : 1 ≤ l.length
    · rw [if_pos (show (l.length : Int) ≥ 1 by omega)]
      by_cases h2 : l.length ≤ 10
      · rw [decide_eq_true (show (l.length : Int) ≤ 10 by omega), decide_eq_true ⟨h1, h2⟩]
        rfl
      · rw [decide_eq_false (show ¬ (l.length : Int) ≤ 10 by omega), decide_eq_false (fun e => h2 e.2)]
        rfl
    · rw [if_neg (show ¬ (l.length : Int) ≥ 1 by omega), decide_eq_false (fun e => h1 e.1)]
      rfl
  | succ d ih =>
    intro k i h hk
    obtain ⟨k, rfl⟩ : ∃ m, k = m + 1 := ⟨k - 1, by omega⟩
    have ih := ih k (i + 1) (by omega) (by omega)
    rw [drop_B l i (by omega)]
    simp only [spec_GoodBridges.l0]
    rw [if_pos (by omega), if_pos (by omega), if_pos (by omega), okB_eq, wi _ (by omega)]
    simp only [Option.bind_some, upB]
    cases ho : okB (rd_T46 l i)
    · simp
    · simp only [if_true, Bool.true_and]
      cases i with
      | zero =>
        rw [if_neg (by omega)]
        have hp : (0 : Int) < (rd_T46 l 0).f0 := by
          unfold okB at ho
          simp at ho
          omega
        rw [ih, show before l 0 = 0 from rfl]
        simp only [before, Int.natCast_zero, show ((0 : Nat) : Int) = 0 from rfl]
        rw [decide_eq_true hp]
        simp
      | succ i =>
        rw [if_pos (by omega), w64 (x := ((i + 1 : Nat) : Int) - 1) (by omega) (by omega), show ((i + 1 : Nat) : Int) - 1 = (i : Int) by omega, if_pos (by omega), if_pos (by omega)]
        have hb : before l (i + 1) = (rd_T46 l i).f0 := rfl
        by_cases hlt : before l (i + 1) < (rd_T46 l ((i + 1 : Nat) : Int)).f0
        · rw [if_neg (by omega), ih, decide_eq_true hlt]
          simp only [Bool.true_and]
          rfl
        · rw [if_pos (by omega), decide_eq_false hlt]
          simp
theorem spec_goodB (l : List S46) (k : Nat) (hn : l.length ≤ 4611686018427387904) (hk : l.length < k) : spec_GoodBridges.f k l = some (goodB l) := by
  have h := spec_goodB_l l hn l.length k 0 (by omega) hk
  rw [List.drop_zero] at h
  exact h
theorem impl_goodB (l : List S46) (k : Nat) (hn : l.length ≤ 4611686018427387904) (hk : l.length < k) : impl_GoodBridges.f k l = some (goodB l) := by
  rw [goodb_same]
  exact spec_goodB l k hn hk
theorem upB_ok : ∀ (l : List S46) (p : Int), upB p l = true → ∀ x ∈ l, okB x = true ∧ p < x.f0
  | y :: l, p, h, x, hx => by
    simp only [upB, Bool.and_eq_true, decide_eq_true_eq] at h
    rcases List.mem_cons.1 hx with rfl | hx
    · exact ⟨h.1, h.2.1⟩
    · have := upB_ok l _ h.2.2 x hx
      exact ⟨this.1, by omega⟩
theorem goodB_ok (l : List S46) (h : goodB l = true) : (∀ x ∈ l, (1 ≤ x.f0 ∧ x.f0 ≤ 1000) ∧ 0 ≤ x.f1 ∧ x.f1 ≤ 127) ∧ 1 ≤ l.length ∧ l.length ≤ 10 := by
  unfold goodB at h
  simp only [Bool.and_eq_true, decide_eq_true_eq] at h
  refine ⟨fun x hx => ?_, h.2⟩
  have := (upB_ok l 0 h.1 x hx).1
  unfold okB at this
  simpa using this

-- servers(46)
def sc (a g : Int) : Int := (7 * a + 13 * g) % 101
theorem spec_sc (a g : Int) (ha : 0 ≤ a ∧ a ≤ 1000) (hg : 0 ≤ g ∧ g ≤ 40) : spec_l4Score.f a g = some (sc a g) := by
  unfold spec_l4Score.f sc
  rw [w64 (x := 7 * a) (by omega) (by omega), w64 (x := 13 * g) (by omega) (by omega), w64 (by omega) (by omega), tm (by omega)]
theorem impl_sc (a g : Int) (ha : 0 ≤ a ∧ a ≤ 1000) (hg : 0 ≤ g ∧ g ≤ 40) : Int.tmod (wrap64 ((wrap64 (a * 7)) + (wrap64 (g * 13)))) 101 = sc a g := by
  unfold sc
  rw [w64 (x := a * 7) (by omega) (by omega), w64 (x := g * 13) (by omega) (by omega), w64 (by omega) (by omega), tm (by omega), Int.mul_comm a, Int.mul_comm g]
/-- Who serves a group: the best till here (0: none), then the others. -/
def bestS (g b : Int) : List S46 → Int
  | [] => b
  | x :: r => bestS g (if x.f2 = true ∧ (b = 0 ∨ sc x.f0 g > sc b g) then x.f0 else b) r
def svs (l : List S46) : Nat → Nat → List Int
  | _, 0 => []
  | g, d + 1 => bestS g 0 l :: svs l (g + 1) d
theorem svs_len (l : List S46) : ∀ (d g : Nat), (svs l g d).length = d
  | 0, _ => rfl
  | d + 1, g => by simp [svs, svs_len l d]
theorem rd_ok (l : List S46) (hok : ∀ x ∈ l, 1 ≤ x.f0 ∧ x.f0 ≤ 1000) (i : Nat) (h : i < l.length) : 1 ≤ (rd_T46 l i).f0 ∧ (rd_T46 l i).f0 ≤ 1000 := by
  rw [rd_T46_at l i h]
  exact hok _ (List.getElem_mem _)
theorem spec_sv1 (l : List S46) (hn : l.length ≤ 10) (hok : ∀ x ∈ l, 1 ≤ x.f0 ∧ x.f0 ≤ 1000) (n : Int) (out : List Int) (ho : out.length ≤ 40) (g : Int) (hg : 0 ≤ g ∧ g ≤ 40) (r : List Int) (d : Nat) : ∀ (i : Nat) (b : Int), 0 ≤ b ∧ b ≤ 1000 → i + d = l.length →
    Ev (fun k => spec_l4Servers.l0 k l n (out ++ [bestS g b (l.drop i)]) (wrap64 (g + 1))) r → Ev (fun k => spec_l4Servers.l1 k l n out g b l l.length i) r := by
  induction d with
  | zero =>
    intro i b hb hi h
    rw [List.drop_of_length_le (by omega)] at h
    exact Ev.step (fun k => by simp only [spec_l4Servers.l1]; rw [if_neg (by omega), if_pos (by omega)]; rfl) h
  | succ d ih =>
    intro i b hb hi h
    have hx := rd_ok l hok i (by omega)
    rw [drop_B l i (by omega)] at h
    simp only [bestS] at h
    cases hu : (rd_T46 l i).f2
    · rw [hu, if_neg (by simp)] at h
      refine Ev.step (fun k => ?_) (ih (i + 1) b hb (by omega) h)
      simp only [spec_l4Servers.l1]
      rw [if_pos (by omega), if_pos (by omega), if_pos (by omega), if_neg (by rw [hu]; decide), wi _ (by omega)]
    · by_cases hz : b = 0
      · rw [hu, if_pos ⟨rfl, Or.inl hz⟩] at h
        refine Ev.step (fun k => ?_) (ih (i + 1) _ (by omega) (by omega) h)
        simp only [spec_l4Servers.l1]
        rw [if_pos (by omega), if_pos (by omega), if_pos (by omega), if_pos hu, if_pos hz, wi _ (by omega)]
      · by_cases hs : sc (rd_T46 l i).f0 g > sc b g
        · rw [hu, if_pos ⟨rfl, Or.inr hs⟩] at h
          refine Ev.step (fun k => ?_) (ih (i + 1) _ (by omega) (by omega) h)
          simp only [spec_l4Servers.l1]
          rw [if_pos (by omega), if_pos (by omega), if_pos (by omega), if_pos hu, if_neg hz, spec_sc _ _ (by omega) hg, spec_sc _ _ hb hg, wi _ (by omega)]
          simp only [Option.bind_some]
          rw [if_pos hs]
        · rw [hu, if_neg (by simp [hz]; omega)] at h
          refine Ev.step (fun k => ?_) (ih (i + 1) b hb (by omega) h)
          simp only [spec_l4Servers.l1]
          rw [if_pos (by omega), if_pos (by omega), if_pos (by omega), if_pos hu, if_neg hz, spec_sc _ _ (by omega) hg, spec_sc _ _ hb hg, wi _ (by omega)]
          simp only [Option.bind_some]
          rw [if_neg hs]
theorem spec_sv0 (l : List S46) (hn : l.length ≤ 10) (hok : ∀ x ∈ l, 1 ≤ x.f0 ∧ x.f0 ≤ 1000) (n : Nat) (hnn : n ≤ 40) (d : Nat) : ∀ (g : Nat) (out : List Int), out.length = g → g + d = n → Ev (fun k => spec_l4Servers.l0 k l n out g) (out ++ svs l g d) := by
  induction d with
  | zero =>
    intro g out ho hg
    rw [svs, List.append_nil]
    exact Ev.step (fun k => by simp only [spec_l4Servers.l0]; rw [if_neg (by omega)]) (Ev.now _)
  | succ d ih =>
    intro g out ho hg
    have ih := ih (g + 1) (out ++ [bestS g 0 l]) (by simp [ho]) (by omega)
    rw [List.append_assoc] at ih
    refine Ev.step (fun k => by simp only [spec_l4Servers.l0]; rw [if_pos (by omega)]; rfl) (spec_sv1 l hn hok n out (by omega) g (by omega) _ l.length 0 0 (by omega) (by omega) ?_)
    rw [List.drop_zero, wi _ (by omega)]
    exact ih
theorem spec_sv (l : List S46) (hn : l.length ≤ 10) (hok : ∀ x ∈ l, 1 ≤ x.f0 ∧ x.f0 ≤ 1000) (n : Nat) (hnn : n ≤ 40) : Ev (fun k => spec_l4Servers.f k l n) (svs l 0 n) :=
  spec_sv0 l hn hok n hnn n 0 [] rfl (by omega)
theorem impl_sv1 (l : List S46) (hn : l.length ≤ 10) (hok : ∀ x ∈ l, 1 ≤ x.f0 ∧ x.f0 ≤ 1000) (n : Int) (out : List Int) (ho : out.length ≤ 40) (g g2 : Int) (hg : 0 ≤ g ∧ g ≤ 40) (r : List Int) (d : Nat) : ∀ (i : Nat) (b m : Int), (b = 0 ∧ m = -1 ∨ (1 ≤ b ∧ b ≤ 1000) ∧ m = sc b g) → i + d = l.length →
    Ev (fun k => impl_servers.l0 k l (out ++ [bestS g b (l.drop i)]) n (wrap64 (g2 + 1))) r → Ev (fun k => impl_servers.l1 k l out g b m n g2 l l.length i) r := by
  induction d with
  | zero =>
    intro i b m hb hi h
    rw [List.drop_of_length_le (by omega)] at h
    exact Ev.step (fun k => by simp only [impl_servers.l1]; rw [if_neg (by omega), if_pos (by omega)]; rfl) h
  | succ d ih =>
    intro i b m hb hi h
    have hx := rd_ok l hok i (by omega)
    have h0 : 0 ≤ sc (rd_T46 l i).f0 g := by unfold sc; omega
    rw [drop_B l i (by omega)] at h
    simp only [bestS] at h
    cases hu : (rd_T46 l i).f2
    · rw [hu, if_neg (by simp)] at h
      refine Ev.step (fun k => ?_) (ih (i + 1) b m hb (by omega) h)
      simp only [impl_servers.l1]
      rw [if_pos (by omega), if_pos (by omega), if_pos (by omega), if_neg (by rw [hu]; decide), wi _ (by omega)]
    · by_cases hs : sc (rd_T46 l i).f0 g > m
      · rw [hu, if_pos ⟨rfl, by omega⟩] at h
        refine Ev.step (fun k => ?_) (ih (i + 1) _ (sc (rd_T46 l i).f0 g) (Or.inr ⟨hx, rfl⟩) (by omega) h)
        simp only [impl_servers.l1]
        rw [if_pos (by omega), if_pos (by omega), if_pos (by omega), if_pos hu, impl_sc _ _ (by omega) hg, if_pos hs, wi _ (by omega)]
      · rw [hu, if_neg (by simp; omega)] at h
        refine Ev.step (fun k => ?_) (ih (i + 1) b m hb (by omega) h)
        simp only [impl_servers.l1]
        rw [if_pos (by omega), if_pos (by omega), if_pos (by omega), if_pos hu, impl_sc _ _ (by omega) hg, if_neg hs, wi _ (by omega)]
theorem impl_sv0 (l : List S46) (hn : l.length ≤ 10) (hok : ∀ x ∈ l, 1 ≤ x.f0 ∧ x.f0 ≤ 1000) (n : Nat) (hnn : n ≤ 40) (d : Nat) : ∀ (g : Nat) (out : List Int), out.length = g → g + d = n → Ev (fun k => impl_servers.l0 k l out n g) (out ++ svs l g d) := by
  induction d with
  | zero =>
    intro g out ho hg
    rw [svs, List.append_nil]
    exact Ev.step (fun k => by simp only [impl_servers.l0]; rw [if_neg (by omega)]) (Ev.now _)
  | succ d ih =>
    intro g out ho hg
    have ih := ih (g + 1) (out ++ [bestS g 0 l]) (by simp [ho]) (by omega)
    rw [List.append_assoc] at ih
    refine Ev.step (fun k => by simp only [impl_servers.l0]; rw [if_pos (by omega)]; rfl) (impl_sv1 l hn hok n out (by omega) g g (by omega) _ l.length 0 0 (-1) (Or.inl ⟨rfl, rfl⟩) (by omega) ?_)
    rw [List.drop_zero, wi _ (by omega)]
    exact ih
theorem impl_sv (l : List S46) (hn : l.length ≤ 10) (hok : ∀ x ∈ l, 1 ≤ x.f0 ∧ x.f0 ≤ 1000) (n : Nat) (hnn : n ≤ 40) : Ev (fun k => impl_servers.f k l n) (svs l 0 n) :=
  impl_sv0 l hn hok n hnn n 0 [] rfl (by omega)

-- inrange(spec_l1In)
theorem spec_l1In_eq (a lo hi : Int) : spec_l1In.f a lo hi = some (decide (lo ≤ a ∧ a ≤ hi)) := by
  unfold spec_l1In.f
  by_cases h : lo ≤ a
  · rw [if_pos (show a ≥ lo from h)]
    simp [h]
  · rw [if_neg (show ¬ a ≥ lo from h)]
    simp [h]

-- at4(46)
theorem fnd_bd {α : Type} (p : α → Bool) : ∀ (l : List α) (i : Int), fnd p l i = -1 ∨ (i ≤ fnd p l i ∧ fnd p l i < i + l.length)
  | [], _ => .inl rfl
  | x :: l, i => by
    unfold fnd
    by_cases h : p x = true
    · rw [if_pos h, List.length_cons]
      right
      omega
    · rw [if_neg h, List.length_cons]
      have := fnd_bd p l (i + 1)
      omega
theorem spec_at_l (id : Int) (l : List S46) (hn : l.length ≤ 4611686018427387904) (d : Nat) : ∀ (k i : Nat), i + d = l.length → d < k → spec_l4At.l0 k id l l.length i = some (fnd (idB id) (l.drop i) i) := by
  induction d with
  | zero =>
    intro k i h hk
    obtain ⟨k, rfl⟩ : ∃ m, k = m + 1 := ⟨k - 1, by omega⟩
    simp only [spec_l4At.l0]
    rw [if_neg (by omega), List.drop_of_length_le (by omega)]
    rfl
  | succ d ih =>
    intro k i h hk
    obtain ⟨k, rfl⟩ : ∃ m, k = m + 1 := ⟨k - 1, by omega⟩
    simp only [spec_l4At.l0]
    rw [if_pos (by omega), if_pos (by omega), if_pos (by omega), drop_B l i (by omega)]
    unfold fnd
    by_cases e : (rd_T46 l i).f0 = id
    · rw [if_pos e, if_pos (by simpa [idB] using e)]
    · rw [if_neg e, if_neg (by simpa [idB] using e), wi i (by omega), ih k (i + 1) (by omega) (by omega)]
      rfl
theorem spec_at (id : Int) (l : List S46) (k : Nat) (hn : l.length ≤ 4611686018427387904) (hk : l.length < k) : spec_l4At.f k l id = some (fnd (idB id) l 0) := by
  have h := spec_at_l id l hn l.length k 0 (by omega) hk
  rw [List.drop_zero] at h
  exact h
theorem impl_at (id : Int) (l : List S46) (hn : l.length ≤ 4611686018427387904) : impl_bridge.f l id = some (fnd (idB id) l 0) := if_pos hn
theorem at_in (id : Int) (l : List S46) (h : ¬ fnd (idB id) l 0 < 0) : 0 ≤ fnd (idB id) l 0 ∧ fnd (idB id) l 0 < (l.length : Int) := by
  have := fnd_bd (idB id) l 0
  omega

-- upfrom
/-- n, n + 1, .., in so many places. -/
def upFrom (m : Int) (n : Nat) : List Int := (List.range n).map fun i : Nat => m + i
theorem upFrom_len (m : Int) (n : Nat) : (upFrom m n).length = n := by simp [upFrom]
theorem rd_nat (l : List Int) (i : Nat) : rd l i = l.getD i 0 := by simp [rd]
theorem rd_upFrom (m : Int) (n i : Nat) (h : i < n) : rd (upFrom m n) i = m + i := by
  simp [rd, upFrom, h]

-- eqi
theorem eqI_l (a b : List Int) (hl : a.length = b.length) (hn : a.length ≤ 4611686018427387904) (d : Nat) : ∀ (k i : Nat), i + d = a.length → d < k →
    laws_eqIntS.l0 k a b i = some (decide (a.drop i = b.drop i)) := by
  induction d with
  | zero =>
    intro k i h hk
    obtain ⟨k, rfl⟩ : ∃ m, k = m + 1 := ⟨k - 1, by omega⟩
    simp only [laws_eqIntS.l0]
    rw [if_neg (by omega), List.drop_of_length_le (by omega), List.drop_of_length_le (by omega)]
    simp
  | succ d ih =>
    intro k i h hk
    obtain ⟨k, rfl⟩ : ∃ m, k = m + 1 := ⟨k - 1, by omega⟩
    have h1 := ih k (i + 1) (by omega) (by omega)
    simp only [laws_eqIntS.l0]
    rw [if_pos (by omega), if_pos (by omega), if_pos (by omega), rd_nat, rd_nat, w64 (by omega) (by omega)]
    have ea : a.drop i = a.getD i 0 :: a.drop (i + 1) := by
      rw [List.getD_eq_getElem?_getD, List.getElem?_eq_getElem (by omega)]
      exact List.drop_eq_getElem_cons (by omega)
    have eb : b.drop i = b.getD i 0 :: b.drop (i + 1) := by
      rw [List.getD_eq_getElem?_getD, List.getElem?_eq_getElem (by omega)]
      exact List.drop_eq_getElem_cons (by omega)
    by_cases e : a.getD i 0 = b.getD i 0
    · rw [if_pos e]
      rw [show ((i : Int) + 1) = ((i + 1 : Nat) : Int) by omega, h1, ea, eb, e]
      simp
    · rw [if_neg e, ea, eb, decide_eq_false (fun h => e (List.cons.inj h).1)]
theorem eqI (a b : List Int) (k : Nat) (hn : a.length ≤ 4611686018427387904) (hk : a.length < k) : laws_eqIntS.f k a b = some (decide (a = b)) := by
  unfold laws_eqIntS.f
  by_cases hl : a.length = b.length
  · rw [if_pos (by omega)]
    simpa using eqI_l a b hl hn a.length k 0 (by omega) hk
  · rw [if_neg (by omega)]
    have : a ≠ b := fun e => hl (by rw [e])
    simp [this]

-- marki
theorem markI_l (m : Int) (hm : 0 ≤ m ∧ m ≤ 4611686018427387904) (d : Nat) : ∀ (k i : Nat) (l : List Int), i + d = l.length → l.length ≤ 2305843009213693952 → d < k → l.take i = upFrom m i →
    laws_markIntS.l0 k l (m + i) i = some (m + l.length, upFrom m l.length) := by
  induction d with
  | zero =>
    intro k i l h hn hk ht
    obtain ⟨k, rfl⟩ : ∃ m, k = m + 1 := ⟨k - 1, by omega⟩
    simp only [laws_markIntS.l0]
    rw [if_neg (by omega)]
    obtain rfl : i = l.length := by omega
    rw [List.take_length] at ht
    rw [← ht]
  | succ d ih =>
    intro k i l h hn hk ht
    obtain ⟨k, rfl⟩ : ∃ m, k = m + 1 := ⟨k - 1, by omega⟩
    simp only [laws_markIntS.l0]
    rw [if_pos (by omega), if_pos (by omega), w64 (x := m + i + 1) (by omega) (by omega), w64 (x := (i : Int) + 1) (by omega) (by omega)]
    have h1 := ih k (i + 1) (l.set (i : Int).toNat (m + i)) (by rw [List.length_set]; omega) (by rw [List.length_set]; omega) (by omega) ?_
    · rw [List.length_set] at h1
      rw [show m + (i : Int) + 1 = m + ((i + 1 : Nat) : Int) by omega, show (i : Int) + 1 = ((i + 1 : Nat) : Int) by omega]
      exact h1
    · rw [Int.toNat_natCast, List.take_set]
      rw [show List.take (i + 1) l = List.take i l ++ [l.getD i 0] by
        rw [List.take_succ_eq_append_getElem (by omega), List.getD_eq_getElem?_getD, List.getElem?_eq_getElem (by omega)]; rfl]
      rw [ht, List.set_append_right _ _ (by rw [upFrom_len]; omega), upFrom_len]
      simp [upFrom, List.range_succ]
theorem markI (l : List Int) (m : Int) (k : Nat) (hm : 0 ≤ m ∧ m ≤ 4611686018427387904) (hn : l.length ≤ 2305843009213693952) (hk : l.length < k) :
    laws_markIntS.f k l m = some (m + l.length, upFrom m l.length) := by
  have h := markI_l m hm l.length k 0 l (by omega) hn hk (by simp [upFrom])
  unfold laws_markIntS.f
  simpa using h
theorem heldI_l (m : Int) (hm : 0 ≤ m ∧ m ≤ 4611686018427387904) (n : Nat) (hn : n ≤ 2305843009213693952) (d : Nat) : ∀ (k i : Nat), i + d = n → d < k →
    laws_heldIntS.l0 k (upFrom m n) (m + i) i = some (m + n) := by
  induction d with
  | zero =>
    intro k i h hk
    obtain ⟨k, rfl⟩ : ∃ m, k = m + 1 := ⟨k - 1, by omega⟩
    simp only [laws_heldIntS.l0]
    rw [if_neg (by rw [upFrom_len]; omega)]
    obtain rfl : i = n := by omega
    rfl
  | succ d ih =>
    intro k i h hk
    obtain ⟨k, rfl⟩ : ∃ m, k = m + 1 := ⟨k - 1, by omega⟩
    have h1 := ih k (i + 1) (by omega) (by omega)
    simp only [laws_heldIntS.l0]
    rw [if_pos (by rw [upFrom_len]; omega), if_pos (by omega), rd_upFrom m n i (by omega), if_pos rfl, w64 (x := m + i + 1) (by omega) (by omega), w64 (x := (i : Int) + 1) (by omega) (by omega)]
    rw [show m + (i : Int) + 1 = m + ((i + 1 : Nat) : Int) by omega, show (i : Int) + 1 = ((i + 1 : Nat) : Int) by omega]
    exact h1
theorem heldI (m : Int) (n k : Nat) (hm : 0 ≤ m ∧ m ≤ 4611686018427387904) (hn : n ≤ 2305843009213693952) (hk : n < k) : laws_heldIntS.f k (upFrom m n) m = some (m + n) := by
  have h := heldI_l m hm n hn n k 0 (by omega) hk
  unfold laws_heldIntS.f
  simpa using h

-- rdt(44)
theorem rd_T44_at (l : List S44) (i : Nat) (h : i < l.length) : rd_T44 l i = l[i] := by
  simp [rd_T44, List.getD_eq_getElem?_getD, List.getElem?_eq_getElem h]

-- tos(44;46;laws_toBridgeS;laws_toBridge;⟨x.f0, x.f1, x.f2⟩;5864062014805)
def cv44 (x : S44) : S46 := ⟨x.f0, x.f1, x.f2⟩
theorem laws_toBridgeS_l (l : List S44) (hn : l.length ≤ 4611686018427387904) (d : Nat) : ∀ (k i : Nat) (m : List S46), i + d = l.length → m.length = l.length → m.take i = (l.map cv44).take i → d < k →
    laws_toBridgeS.l0 k l m i = some (l.map cv44) := by
  induction d with
  | zero =>
    intro k i m h hm ht hk
    obtain ⟨k, rfl⟩ : ∃ m, k = m + 1 := ⟨k - 1, by omega⟩
    simp only [laws_toBridgeS.l0]
    rw [if_neg (by omega)]
    rw [List.take_of_length_le (by omega), List.take_of_length_le (by rw [List.length_map]; omega)] at ht
    rw [ht]
  | succ d ih =>
    intro k i m h hm ht hk
    obtain ⟨k, rfl⟩ : ∃ m, k = m + 1 := ⟨k - 1, by omega⟩
    simp only [laws_toBridgeS.l0, laws_toBridge.f, Option.bind_some]
    rw [if_pos (by omega), if_pos (by omega), if_pos (by omega), w64 (by omega) (by omega), show ((i : Int) + 1) = ((i + 1 : Nat) : Int) by omega]
    refine ih k (i + 1) _ (by omega) (by rw [List.length_set]; exact hm) ?_ (by omega)
    rw [Int.toNat_natCast]
    exact set_take _ _ i (by rw [List.length_map]; omega) (by rw [List.length_map]; exact hm) ht _ (by rw [List.getElem?_map, List.getElem?_eq_getElem (by omega), rd_T44_at l i (by omega)]; rfl)
theorem laws_toBridgeS_eq (l : List S44) (k : Nat) (hn : l.length ≤ 5864062014805) (hk : l.length < k) : laws_toBridgeS.f k l = some (l.map cv44) := by
  unfold laws_toBridgeS.f
  rw [if_pos (by omega), if_pos (by omega)]
  exact laws_toBridgeS_l l (by omega) l.length k 0 _ (by omega) (by simp) (by simp) hk

-- eqs(46;laws_eqBridgeS;laws_eqBridge)
theorem laws_eqBridgeS_l (l : List S46) (hn : l.length ≤ 4611686018427387904) (d : Nat) : ∀ (k i : Nat), i + d = l.length → d < k → laws_eqBridgeS.l0 k l l i = some true := by
  induction d with
  | zero =>
    intro k i h hk
    obtain ⟨k, rfl⟩ : ∃ m, k = m + 1 := ⟨k - 1, by omega⟩
    simp only [laws_eqBridgeS.l0]
    rw [if_neg (by omega)]
  | succ d ih =>
    intro k i h hk
    obtain ⟨k, rfl⟩ : ∃ m, k = m + 1 := ⟨k - 1, by omega⟩
    have h1 := ih k (i + 1) (by omega) (by omega)
    simp only [laws_eqBridgeS.l0]
    rw [if_pos (by omega), if_pos (by omega), if_pos (by omega), w64 (by omega) (by omega), show ((i : Int) + 1) = ((i + 1 : Nat) : Int) by omega, h1]
    unfold laws_eqBridge.f
    simp
theorem laws_eqBridgeS_refl (l : List S46) (k : Nat) (hn : l.length ≤ 4611686018427387904) (hk : l.length < k) : laws_eqBridgeS.f k l l = some true := by
  unfold laws_eqBridgeS.f
  rw [if_pos rfl]
  exact laws_eqBridgeS_l l hn l.length k 0 (by omega) hk

-- marksonly(46;laws_markBridgeS;⟨m, m + 1, Int.tmod (m + 1 + 1) 3 == 0⟩;3;m + 3 * (i : Int) + 1 + 1 + 1)
def el46 (m : Int) : S46 := ⟨m, m + 1, Int.tmod (m + 1 + 1) 3 == 0⟩
/-- What a marked list of so many holds. -/
def mk46 (m : Int) (n : Nat) : List S46 := (List.range n).map fun i : Nat => el46 (m + 3 * (i : Int))
theorem mk46_len (m : Int) (n : Nat) : (mk46 m n).length = n := by simp [mk46]
theorem rd_T46_set (l : List S46) (i : Nat) (v : S46) (h : i < l.length) : rd_T46 (l.set (i : Int).toNat v) (i : Int) = v := by
  simp [rd_T46, List.getD_eq_getElem?_getD, h]
theorem set_set46 (l : List S46) (i : Int) (a b : S46) : (l.set i.toNat a).set i.toNat b = l.set i.toNat b := by rw [List.set_set]
theorem laws_markBridgeS_l (m : Int) (n : Nat) (hm : 0 ≤ m ∧ m ≤ 1152921504606846976) (hn : n ≤ 35184372088832) (d : Nat) : ∀ (k i : Nat) (l : List S46), i + d = n → l.length = n → d < k → l.take i = (mk46 m n).take i →
    laws_markBridgeS.l0 k l (m + 3 * (i : Int)) i = some (m + 3 * (n : Int), mk46 m n) := by
  have hw : ∀ x : Int, 0 ≤ x → x ≤ 2305843009213693952 → wrap64 (x + 1) = x + 1 := fun x h0 h1 => w64 (by omega) (by omega)
  induction d with
  | zero =>
    intro k i l h hl hk ht
    obtain ⟨k, rfl⟩ : ∃ m, k = m + 1 := ⟨k - 1, by omega⟩
    simp only [laws_markBridgeS.l0]
    rw [if_neg (by omega)]
    rw [List.take_of_length_le (by omega), List.take_of_length_le (by rw [mk46_len]; omega)] at ht
    rw [ht, show i = n by omega]
  | succ d ih =>
    intro k i l h hl hk ht
    obtain ⟨k, rfl⟩ : ∃ m, k = m + 1 := ⟨k - 1, by omega⟩
    have hi : i < l.length := by omega
    simp only [laws_markBridgeS.l0]
    rw [if_pos (by omega), if_pos (by omega)]
    simp only [Option.bind_some, rd_T46_set l i _ hi, set_set46]
    simp (disch := omega) only [hw]
    have h1 := ih k (i + 1) (l.set (i : Int).toNat (el46 (m + 3 * (i : Int)))) (by omega) (by rw [List.length_set]; exact hl) (by omega) (by
      rw [Int.toNat_natCast]
      exact set_take _ _ i (by rw [mk46_len]; omega) (by rw [mk46_len]; exact hl) ht _ (by simp [mk46, show i < n by omega]))
    rw [show m + 3 * (i : Int) + 1 + 1 + 1 = m + 3 * ((i + 1 : Nat) : Int) by omega, show (i : Int) + 1 = ((i + 1 : Nat) : Int) by omega]
    exact h1
theorem laws_markBridgeS_eq (l : List S46) (m : Int) (k : Nat) (hm : 0 ≤ m ∧ m ≤ 1152921504606846976) (hn : l.length ≤ 35184372088832) (hk : l.length < k) : laws_markBridgeS.f k l m = some (m + 3 * (l.length : Int), mk46 m l.length) := by
  have h := laws_markBridgeS_l m l.length hm hn l.length k 0 l (by omega) rfl hk (by simp)
  simp only [Int.natCast_zero, show ((0 : Nat) : Int) = 0 from rfl, Int.mul_zero, Int.add_zero] at h
  exact h

def dif (a b : List Int) (i : Nat) : Nat → List Int
  | 0 => []
  | d + 1 => (if rd a i = rd b i then [] else [(i : Int)]) ++ dif a b (i + 1) d
theorem dif_len (a b : List Int) : ∀ d i, (dif a b i d).length ≤ d
  | 0, _ => Nat.le_refl _
  | d + 1, i => by
    unfold dif
    have := dif_len a b d (i + 1)
    rw [List.length_append]
    split <;> simp only [List.length_nil, List.length_cons] <;> omega
theorem dif_comm (a b : List Int) : ∀ d i, dif a b i d = dif b a i d
  | 0, _ => rfl
  | d + 1, i => by
    unfold dif
    rw [dif_comm a b d (i + 1)]
    by_cases h : rd a i = rd b i
    · rw [if_pos h, if_pos h.symm]
    · rw [if_neg h, if_neg (fun e => h e.symm)]
theorem spec_dif (a b : List Int) (hl : a.length = b.length) (hn : a.length ≤ 40) (d : Nat) : ∀ (k i : Nat) (out : List Int), i + d = a.length → out.length ≤ i → d < k → spec_Moved.l0 k b out a a.length i = some (out ++ dif a b i d, true) := by
  induction d with
  | zero =>
    intro k i out h ho hk
    obtain ⟨k, rfl⟩ : ∃ m, k = m + 1 := ⟨k - 1, by omega⟩
    simp only [spec_Moved.l0]
    rw [if_neg (by omega)]
    simp [dif]
  | succ d ih =>
    intro k i out h ho hk
    obtain ⟨k, rfl⟩ : ∃ m, k = m + 1 := ⟨k - 1, by omega⟩
    simp only [spec_Moved.l0]
    rw [if_pos (by omega), if_pos (by omega), if_pos (by omega), if_pos (by omega), wi i (by omega)]
    unfold dif
    by_cases e : rd a i = rd b i
    · rw [if_pos e, if_pos e, ih k (i + 1) out (by omega) (by omega) (by omega)]
      simp
    · rw [if_neg e, if_neg e, if_pos (by omega), ih k (i + 1) _ (by omega) (by rw [List.length_append, List.length_singleton]; omega) (by omega)]
      simp
theorem impl_dif (a b : List Int) (hl : a.length = b.length) (hn : a.length ≤ 40) (d : Nat) : ∀ (k i : Nat) (out : List Int), i + d = a.length → out.length ≤ i → d < k → impl_Moved.l0 k out b a a.length i = some (out ++ dif a b i d, true) := by
  induction d with
  | zero =>
    intro k i out h ho hk
    obtain ⟨k, rfl⟩ : ∃ m, k = m + 1 := ⟨k - 1, by omega⟩
    simp only [impl_Moved.l0]
    rw [if_neg (by omega)]
    simp [dif]
  | succ d ih =>
    intro k i out h ho hk
    obtain ⟨k, rfl⟩ : ∃ m, k = m + 1 := ⟨k - 1, by omega⟩
    simp only [impl_Moved.l0]
    rw [if_pos (by omega), if_pos (by omega), if_pos (by omega), if_pos (by omega), wi i (by omega)]
    unfold dif
    by_cases e : rd a i = rd b i
    · rw [if_pos e, if_pos e, ih k (i + 1) out (by omega) (by omega) (by omega)]
      simp
    · rw [if_neg e, if_neg e, if_pos (by omega), ih k (i + 1) _ (by omega) (by rw [List.length_append, List.length_singleton]; omega) (by omega)]
      simp
def downB (l : List S46) (j : Int) : List S46 := l.set j.toNat ⟨(rd_T46 l j).f0, (rd_T46 l j).f1, false⟩
def movedR (l : List S46) (id n : Int) : List Int × Bool :=
  if goodB l = true ∧ (0 ≤ n ∧ n ≤ 40) ∧ ¬ fnd (idB id) l 0 < 0 ∧ (rd_T46 l (fnd (idB id) l 0)).f2 = true then (dif (svs l 0 n.toNat) (svs (downB l (fnd (idB id) l 0)) 0 n.toNat) 0 n.toNat, true) else ([], false)
theorem movedR_len (l : List S46) (id n : Int) : (movedR l id n).1.length ≤ 40 := by
  unfold movedR
  split
  · rename_i h
    have := dif_len (svs l 0 n.toNat) (svs (downB l (fnd (idB id) l 0)) 0 n.toNat) n.toNat 0
    simp only
    omega
  · simp
theorem down_ok (l : List S46) (j : Int) (h0 : 0 ≤ j) (h1 : j < l.length) (hok : ∀ x ∈ l, 1 ≤ x.f0 ∧ x.f0 ≤ 1000) : ∀ x ∈ downB l j, 1 ≤ x.f0 ∧ x.f0 ≤ 1000 := by
  intro x hx
  rcases List.mem_or_eq_of_mem_set hx with h | rfl
  · exact hok x h
  · obtain ⟨i, rfl⟩ := Int.eq_ofNat_of_zero_le h0
    exact rd_ok l hok i (by omega)
theorem spec_Moved_f (l : List S46) (id n : Int) (hn : l.length ≤ 4611686018427) : Ev (fun k => spec_Moved.f k l id n) (movedR l id n) := by
  have e1 := fun k hk => spec_at id l k (by omega) hk
  have e2 := fun k hk => spec_goodB l k (by omega) hk
  unfold movedR
  cases hg : goodB l
  · refine ev_ge (l.length + 2) (fun k hk => ?_)
    obtain ⟨k, rfl⟩ : ∃ m, k = m + 1 := ⟨k - 1, by omega⟩
    unfold spec_Moved.f
    rw [e1 (k + 1) (by omega), e2 (k + 1) (by omega), hg]
    simp [spec_Moved.j0]
  · obtain ⟨hb, _, h10⟩ := goodB_ok l hg
    by_cases h : 0 ≤ n ∧ n ≤ 40
    · by_cases hf : fnd (idB id) l 0 < 0
      · refine ev_ge (l.length + 2) (fun k hk => ?_)
        obtain ⟨k, rfl⟩ : ∃ m, k = m + 1 := ⟨k - 1, by omega⟩
        unfold spec_Moved.f
        rw [e1 (k + 1) (by omega), e2 (k + 1) (by omega), hg, spec_l1In_eq, decide_eq_true h, if_neg (fun e => e.2.2.1 hf)]
        simp only [Option.bind_some, if_true]
        rw [if_pos hf]
        simp [spec_Moved.j0]
      · obtain ⟨h0, h1⟩ := at_in id l hf
        cases hu : (rd_T46 l (fnd (idB id) l 0)).f2
        · refine ev_ge (l.length + 2) (fun k hk => ?_)
          obtain ⟨k, rfl⟩ : ∃ m, k = m + 1 := ⟨k - 1, by omega⟩
          unfold spec_Moved.f
          rw [e1 (k + 1) (by omega), e2 (k + 1) (by omega), hg, spec_l1In_eq, decide_eq_true h]
          simp only [Option.bind_some, if_true]
          rw [if_neg hf, if_pos h0, if_pos h1, hu]
          simp [spec_Moved.j0]
        · obtain ⟨m, rfl⟩ := Int.eq_ofNat_of_zero_le h.1
          obtain ⟨K1, hK1⟩ := spec_sv l h10 (fun x hx => (hb x hx).1) m (by omega)
          obtain ⟨K2, hK2⟩ := spec_sv (downB l (fnd (idB id) l 0)) (by unfold downB; rw [List.length_set]; exact h10) (down_ok l _ h0 h1 (fun x hx => (hb x hx).1)) m (by omega)
          refine ev_ge (K1 + K2 + l.length + m + 5) (fun k hk => ?_)
          obtain ⟨k, rfl⟩ : ∃ m, k = m + 1 := ⟨k - 1, by omega⟩
          have d1 : spec_l4Servers.f k l (m : Int) = some (svs l 0 m) := hK1 k (by omega)
          have d2 : spec_l4Servers.f k (downB l (fnd (idB id) l 0)) (m : Int) = some (svs (downB l (fnd (idB id) l 0)) 0 m) := hK2 k (by omega)
          unfold spec_Moved.f
          rw [e1 (k + 1) (by omega), e2 (k + 1) (by omega), hg, spec_l1In_eq, decide_eq_true h, if_pos ⟨rfl, h, hf, rfl⟩]
          simp only [Option.bind_some, if_true]
          rw [if_neg hf, if_pos h0, if_pos h1, hu]
          simp only [spec_Moved.j0, Bool.not_true, Bool.false_eq_true, if_false]
          rw [d1]
          simp only [Option.bind_some, List.nil_append]
          rw [if_pos (by simp only [List.length_nil]; omega), if_pos h0, if_pos h1]
          rw [show l.set (fnd (idB id) l 0).toNat (⟨(rd_T46 l (fnd (idB id) l 0)).f0, (rd_T46 l (fnd (idB id) l 0)).f1, false⟩ : S46) = downB l (fnd (idB id) l 0) from rfl, d2]
          simp only [Option.bind_some]
          have h2 := spec_dif (svs (downB l (fnd (idB id) l 0)) 0 m) (svs l 0 m) (by rw [svs_len, svs_len]) (by rw [svs_len]; omega) m k 0 [] (by rw [svs_len]; omega) (Nat.le_refl _) (by omega)
          rw [dif_comm, List.nil_append] at h2
          exact h2
    · refine ev_ge (l.length + 2) (fun k hk => ?_)
      obtain ⟨k, rfl⟩ : ∃ m, k = m + 1 := ⟨k - 1, by omega⟩
      unfold spec_Moved.f
      rw [e1 (k + 1) (by omega), e2 (k + 1) (by omega), hg, spec_l1In_eq, decide_eq_false h, if_neg (fun e => h e.2.1)]
      simp [spec_Moved.j0]
theorem impl_Moved_f (l : List S46) (id n : Int) (hn : l.length ≤ 4611686018427) : Ev (fun k => impl_Moved.f k l id n) (movedR l id n) := by
  have e1 := impl_at id l (by omega)
  have e2 := fun k hk => impl_goodB l k (by omega) hk
  unfold movedR
  cases hg : goodB l
  · refine ev_ge (l.length + 2) (fun k hk => ?_)
    obtain ⟨k, rfl⟩ : ∃ m, k = m + 1 := ⟨k - 1, by omega⟩
    unfold impl_Moved.f
    rw [e2 (k + 1) (by omega), hg]
    simp [impl_Moved.j0]
  · obtain ⟨hb, _, h10⟩ := goodB_ok l hg
    by_cases h : 0 ≤ n ∧ n ≤ 40
    · by_cases hf : fnd (idB id) l 0 < 0
      · refine ev_ge (l.length + 2) (fun k hk => ?_)
        obtain ⟨k, rfl⟩ : ∃ m, k = m + 1 := ⟨k - 1, by omega⟩
        unfold impl_Moved.f
        rw [e2 (k + 1) (by omega), hg, in_same, spec_l1In_eq, decide_eq_true h, if_neg (fun e => e.2.2.1 hf)]
        simp only [Option.bind_some, if_true]
        rw [e1]
        simp only [Option.bind_some]
        rw [if_pos hf]
        simp [impl_Moved.j0]
      · obtain ⟨h0, h1⟩ := at_in id l hf
        cases hu : (rd_T46 l (fnd (idB id) l 0)).f2
        · refine ev_ge (l.length + 2) (fun k hk => ?_)
          obtain ⟨k, rfl⟩ : ∃ m, k = m + 1 := ⟨k - 1, by omega⟩
          unfold impl_Moved.f
          rw [e2 (k + 1) (by omega), hg, in_same, spec_l1In_eq, decide_eq_true h]
          simp only [Option.bind_some, if_true]
          rw [e1]
          simp only [Option.bind_some]
          rw [if_neg hf, if_pos h0, if_pos h1, hu]
          simp [impl_Moved.j0]
        · obtain ⟨m, rfl⟩ := Int.eq_ofNat_of_zero_le h.1
          obtain ⟨K1, hK1⟩ := impl_sv l h10 (fun x hx => (hb x hx).1) m (by omega)
          obtain ⟨K2, hK2⟩ := impl_sv (downB l (fnd (idB id) l 0)) (by unfold downB; rw [List.length_set]; exact h10) (down_ok l _ h0 h1 (fun x hx => (hb x hx).1)) m (by omega)
          refine ev_ge (K1 + K2 + l.length + m + 5) (fun k hk => ?_)
          obtain ⟨k, rfl⟩ : ∃ m, k = m + 1 := ⟨k - 1, by omega⟩
          have d1 : impl_servers.f k l (m : Int) = some (svs l 0 m) := hK1 k (by omega)
          have d2 : impl_servers.f k (downB l (fnd (idB id) l 0)) (m : Int) = some (svs (downB l (fnd (idB id) l 0)) 0 m) := hK2 k (by omega)
          unfold impl_Moved.f
          rw [e2 (k + 1) (by omega), hg, in_same, spec_l1In_eq, decide_eq_true h, if_pos ⟨rfl, h, hf, rfl⟩]
          simp only [Option.bind_some, if_true]
          rw [e1]
          simp only [Option.bind_some]
          rw [if_neg hf, if_pos h0, if_pos h1, hu]
          simp only [impl_Moved.j0, Bool.not_true, Bool.false_eq_true, if_false]
          unfold impl_Bridge_76.f
          rw [if_pos (by omega), e1]
          simp only [Option.bind_some]
          rw [if_pos h0, if_pos h1]
          rw [show l.set (fnd (idB id) l 0).toNat (⟨(rd_T46 l (fnd (idB id) l 0)).f0, (rd_T46 l (fnd (idB id) l 0)).f1, false⟩ : S46) = downB l (fnd (idB id) l 0) from rfl, d2]
          simp only [Option.bind_some]
          rw [d1]
          simp only [Option.bind_some]
          have h2 := impl_dif (svs l 0 m) (svs (downB l (fnd (idB id) l 0)) 0 m) (by rw [svs_len, svs_len]) (by rw [svs_len]; omega) m k 0 [] (by rw [svs_len]; omega) (Nat.le_refl _) (by omega)
          rw [List.nil_append] at h2
          exact h2
    · refine ev_ge (l.length + 2) (fun k hk => ?_)
      obtain ⟨k, rfl⟩ : ∃ m, k = m + 1 := ⟨k - 1, by omega⟩
      unfold impl_Moved.f
      rw [e2 (k + 1) (by omega), hg, in_same, spec_l1In_eq, decide_eq_false h, if_neg (fun e => h e.2.1)]
      simp [impl_Moved.j0]
theorem FnExactMoved : laws_FnExactMoved.PureS := by
  intro l id n ⟨hn, _⟩ _ _
  have hm : (l.map cv44).length = l.length := List.length_map _
  have ht := fun k hk => laws_toBridgeS_eq l k (by omega) hk
  unfold laws_FnExactMoved.f laws_szBridgeS.f
  rw [w64 (by omega) (by omega)]
  by_cases h0 : 1048576 - (l.length : Int) < 0
  · refine ⟨0, ?_⟩
    rw [if_pos h0]
    simp
  · obtain ⟨K1, h1⟩ := spec_Moved_f (l.map cv44) id n (by omega)
    obtain ⟨K2, h2⟩ := impl_Moved_f (l.map cv44) id n (by omega)
    have hrl := movedR_len (l.map cv44) id n
    generalize movedR (l.map cv44) id n = r at h1 h2 hrl
    replace h1 : ∀ k, K1 ≤ k → spec_Moved.f k (l.map cv44) id n = some r := h1
    replace h2 : ∀ k, K2 ≤ k → impl_Moved.f k (l.map cv44) id n = some r := h2
    obtain ⟨K, hK⟩ : ∃ K, K = K1 + K2 + l.length + 59 := ⟨_, rfl⟩
    refine ⟨K, ?_⟩
    rw [if_neg h0]
    simp only [Option.bind_some]
    rw [if_neg h0, ht K (by omega)]
    simp only [Option.bind_some]
    rw [h1 K (by omega), h2 K (by omega)]
    simp only [Option.bind_some]
    rw [eqI _ _ K (by omega) (by omega)]
    simp only [Option.bind_some, decide_true, if_true, bne_self_eq_false]
    obtain ⟨K, rfl⟩ : ∃ m, K = m + 3 := ⟨K - 3, by omega⟩
    simp only [laws_FnExactMoved.j0, Bool.false_eq_true, if_false]
    rw [ht (K + 2) (by omega)]
    simp only [Option.bind_some]
    rw [laws_eqBridgeS_refl _ (K + 2) (by omega) (by omega)]
    simp only [Option.bind_some, if_true]
    rw [laws_markBridgeS_eq _ 1 (K + 2) (by omega) (by omega) (by omega)]
    simp only [Option.bind_some]
    rw [if_neg (by omega), eqI _ _ (K + 2) (by omega) (by omega)]
    simp only [Option.bind_some, decide_true, if_true, bne_self_eq_false]
    simp only [laws_FnExactMoved.j1, Bool.false_eq_true, if_false]
    rw [markI r.1 1 (K + 1) (by omega) (by omega) (by omega)]
    simp only [Option.bind_some]
    rw [heldI 1 _ (K + 1) (by omega) (by omega) (by omega)]
    simp only [Option.bind_some, if_true]
    rw [if_neg (by omega), ht (K + 1) (by omega)]
    simp only [Option.bind_some]
    rw [h2 (K + 1) (by omega)]
    simp only [Option.bind_some]
    rw [eqI _ _ (K + 1) (by omega) (by omega)]
    simp only [Option.bind_some, decide_true, if_true, bne_self_eq_false]
    simp only [laws_FnExactMoved.j2, Bool.false_eq_true, if_false]
    rw [heldI 1 _ K (by omega) (by omega) (by omega)]
    simp only [Option.bind_some, if_true]
    rw [if_neg (by omega)]

end Go.Proofs.Ytnemglgbginbdaa.Pure
