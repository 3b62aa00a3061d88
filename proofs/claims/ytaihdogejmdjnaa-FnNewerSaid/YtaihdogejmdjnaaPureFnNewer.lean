/- FnNewer answers true for all drawn numbers. No condition beyond the row's own bounds. -/
import Derived.Test.YtaihdogejmdjnaaSFnNewer
namespace Go.Proofs.Ytaihdogejmdjnaa.Pure
open Go.RowKit Go.Proofs.Ytaihdogejmdjnaa.PFnNewer Go.Proofs.YtaihdogejmdjnaaW.PrintWords Go.Proofs.YtaihdogejmdjnaaW.PrintLast
set_option linter.unusedVariables false
set_option linter.unusedSimpArgs false

-- w64
theorem w64 {x : Int} (h0 : -9223372036854775808 ≤ x) (h1 : x ≤ 9223372036854775807) : wrap64 x = x := by
  unfold wrap64
  omega
theorem tm {x y : Int} (h0 : 0 ≤ x) : Int.tmod x y = x % y := Int.tmod_eq_emod_of_nonneg h0
theorem wf64 {x : Int} (h : (Lit.int .i64 x).wf = true) : -9223372036854775808 ≤ x ∧ x ≤ 9223372036854775807 := by
  simp [Lit.wf, IntKind.min, IntKind.max, IntKind.signed, IntKind.bits] at h
  omega

-- helps
theorem set_take {α : Type} (m L : List α) (i : Nat) (hi : i < L.length) (hm : m.length = L.length) (ht : m.take i = L.take i) (v : α) (hv : L[i]? = some v) : (m.set i v).take (i + 1) = L.take (i + 1) := by
  rw [List.take_set, List.take_succ_eq_append_getElem (by omega), List.take_succ_eq_append_getElem hi, ht, List.set_append_right _ _ (by rw [List.length_take]; omega)]
  rw [List.length_take, show i - min i L.length = 0 by omega]
  rw [List.getElem?_eq_getElem hi] at hv
  rw [Option.some.inj hv]
  rfl
/-- From some number of rounds on: one number for a pair. -/
theorem ev_at {α : Type} {g : Nat → Option α} {r : α} (h : Ev g r) : ∃ K, ∀ k, K ≤ k → g k = some r := h
theorem ev_some {α : Type} {g : Nat → Option α} {r : α} (h : ∀ k, g k = some r) : Ev g r := ⟨0, fun k _ => h k⟩
theorem ev_ge {α : Type} {g : Nat → Option α} {r : α} (K : Nat) (h : ∀ k, K ≤ k → g k = some r) : Ev g r := ⟨K, h⟩

-- newer
/-- Is a newer than b, by the code's own sum. -/
def nw (a b : Int) : Bool := decide (1 ≤ Int.tmod (wrap64 ((wrap64 (a - b)) + 64)) 64 ∧ Int.tmod (wrap64 ((wrap64 (a - b)) + 64)) 64 ≤ 31)
theorem spec_newer (a b : Int) : spec_l5Newer.f a b = some (nw a b) := by
  unfold spec_l5Newer.f spec_l5Steps.f spec_l1In.f nw
  simp only [Option.bind_some, ge_iff_le]
  by_cases h : 1 ≤ Int.tmod (wrap64 ((wrap64 (a - b)) + 64)) 64
  · simp [h]
  · simp [h]
theorem impl_newer (a b : Int) : impl_isNewer.f a b = some (nw a b) := by
  unfold impl_isNewer.f impl_stepsTo.f impl_in.f nw
  simp only [Option.bind_some, ge_iff_le]
  by_cases h : 1 ≤ Int.tmod (wrap64 ((wrap64 (a - b)) + 64)) 64
  · simp [h]
  · simp [h]
theorem nw_self (a : Int) : nw a a = false := by
  unfold nw
  rw [Int.sub_self, w64 (x := 0) (by omega) (by omega), w64 (by omega) (by omega)]
  decide
theorem nw_eq (a b : Int) (ha : 0 ≤ a ∧ a ≤ 63) (hb : 0 ≤ b ∧ b ≤ 63) : nw a b = decide (1 ≤ (a - b + 64) % 64 ∧ (a - b + 64) % 64 ≤ 31) := by
  unfold nw
  rw [w64 (x := a - b) (by omega) (by omega), w64 (by omega) (by omega), tm (by omega)]
theorem nw_anti (a b : Int) (ha : 0 ≤ a ∧ a ≤ 63) (hb : 0 ≤ b ∧ b ≤ 63) (h : nw a b = true) : nw b a = false := by
  rw [nw_eq _ _ ha hb] at h
  rw [nw_eq _ _ hb ha]
  simp at h ⊢
  omega

-- dropi
theorem drop_i (l : List Int) (i : Nat) (h : i < l.length) : l.drop i = rd l i :: l.drop (i + 1) := by
  unfold rd
  rw [Int.toNat_natCast, List.getD_eq_getElem?_getD, List.getElem?_eq_getElem h]
  exact List.drop_eq_getElem_cons h
theorem rd_mem (l : List Int) (i : Nat) (h : i < l.length) : rd l i ∈ l := by
  unfold rd
  rw [Int.toNat_natCast, List.getD_eq_getElem?_getD, List.getElem?_eq_getElem h]
  exact List.getElem_mem h

-- inrange(spec_l1In)
theorem spec_l1In_eq (a lo hi : Int) : spec_l1In.f a lo hi = some (decide (lo ≤ a ∧ a ≤ hi)) := by
  unfold spec_l1In.f
  by_cases h : lo ≤ a
  · rw [if_pos (show a ≥ lo from h)]
    simp [h]
  · rw [if_neg (show ¬ a ≥ lo from h)]
    simp [h]

-- allin(spec_l1All,spec_l1In)
theorem spec_l1All_l (lo hi : Int) (l : List Int) (hn : l.length ≤ 4611686018427387904) (d : Nat) : ∀ (k i : Nat), i + d = l.length → d < k →
    spec_l1All.l0 k lo hi l l.length i = some ((l.drop i).all fun x => decide (lo ≤ x ∧ x ≤ hi)) := by
  induction d with
  | zero =>
    intro k i h hk
    obtain ⟨k, rfl⟩ : ∃ m, k = m + 1 := ⟨k - 1, by omega⟩
    simp only [spec_l1All.l0]
    rw [if_neg (by omega), List.drop_of_length_le (by omega)]
    rfl
  | succ d ih =>
    intro k i h hk
    obtain ⟨k, rfl⟩ : ∃ m, k = m + 1 := ⟨k - 1, by omega⟩
    have h1 := ih k (i + 1) (by omega) (by omega)
    have ea : l.drop i = rd l i :: l.drop (i + 1) := by
      unfold rd
      rw [Int.toNat_natCast, List.getD_eq_getElem?_getD, List.getElem?_eq_getElem (by omega)]
      exact List.drop_eq_getElem_cons (by omega)
    simp only [spec_l1All.l0]
    rw [if_pos (by omega), if_pos (by omega), if_pos (by omega), spec_l1In_eq, ea, List.all_cons]
    simp only [Option.bind_some]
    by_cases e : lo ≤ rd l i ∧ rd l i ≤ hi
    · rw [decide_eq_true e]
      simp only [if_true, Bool.true_and]
      rw [w64 (by omega) (by omega), show ((i : Int) + 1) = ((i + 1 : Nat) : Int) by omega]
      exact h1
    · rw [decide_eq_false e]
      simp
theorem spec_l1All_eq (l : List Int) (lo hi : Int) (k : Nat) (hn : l.length ≤ 4611686018427387904) (hk : l.length < k) : spec_l1All.f k l lo hi = some (l.all fun x => decide (lo ≤ x ∧ x ≤ hi)) := by
  have h := spec_l1All_l lo hi l hn l.length k 0 (by omega) hk
  unfold spec_l1All.f
  simpa using h

-- inrange(impl_in)
theorem impl_in_eq (a lo hi : Int) : impl_in.f a lo hi = some (decide (lo ≤ a ∧ a ≤ hi)) := by
  unfold impl_in.f
  by_cases h : lo ≤ a
  · rw [if_pos (show a ≥ lo from h)]
    simp [h]
  · rw [if_neg (show ¬ a ≥ lo from h)]
    simp [h]

-- allin(impl_allIn,impl_in)
theorem impl_allIn_l (lo hi : Int) (l : List Int) (hn : l.length ≤ 4611686018427387904) (d : Nat) : ∀ (k i : Nat), i + d = l.length → d < k →
    impl_allIn.l0 k lo hi l l.length i = some ((l.drop i).all fun x => decide (lo ≤ x ∧ x ≤ hi)) := by
  induction d with
  | zero =>
    intro k i h hk
    obtain ⟨k, rfl⟩ : ∃ m, k = m + 1 := ⟨k - 1, by omega⟩
    simp only [impl_allIn.l0]
    rw [if_neg (by omega), List.drop_of_length_le (by omega)]
    rfl
  | succ d ih =>
    intro k i h hk
    obtain ⟨k, rfl⟩ : ∃ m, k = m + 1 := ⟨k - 1, by omega⟩
    have h1 := ih k (i + 1) (by omega) (by omega)
    have ea : l.drop i = rd l i :: l.drop (i + 1) := by
      unfold rd
      rw [Int.toNat_natCast, List.getD_eq_getElem?_getD, List.getElem?_eq_getElem (by omega)]
      exact List.drop_eq_getElem_cons (by omega)
    simp only [impl_allIn.l0]
    rw [if_pos (by omega), if_pos (by omega), if_pos (by omega), impl_in_eq, ea, List.all_cons]
    simp only [Option.bind_some]
    by_cases e : lo ≤ rd l i ∧ rd l i ≤ hi
    · rw [decide_eq_true e]
      simp only [if_true, Bool.true_and]
      rw [w64 (by omega) (by omega), show ((i : Int) + 1) = ((i + 1 : Nat) : Int) by omega]
      exact h1
    · rw [decide_eq_false e]
      simp
theorem impl_allIn_eq (l : List Int) (lo hi : Int) (k : Nat) (hn : l.length ≤ 4611686018427387904) (hk : l.length < k) : impl_allIn.f k l lo hi = some (l.all fun x => decide (lo ≤ x ∧ x ≤ hi)) := by
  have h := impl_allIn_l lo hi l hn l.length k 0 (by omega) hk
  unfold impl_allIn.f
  simpa using h

-- ring
/-- Two numbers that no order fits, or three that go round. -/
def bad (l : List Int) (a b : Int) : Bool := (!(a == b) && (!nw a b && !nw b a)) || (l.any fun c => nw a b && (nw b c && nw c a))
theorem wi (i : Nat) (h : i ≤ 1000) : wrap64 ((i : Int) + 1) = ((i + 1 : Nat) : Int) := by
  rw [w64 (by omega) (by omega)]
  omega
theorem spec_ring2 (l : List Int) (hl : l.length ≤ 40) (a b i j : Int) (r : Bool × Bool) (h : Ev (fun k => spec_FitsRing.l1 k l a l l.length i l l.length (wrap64 (j + 1))) r) (d : Nat) : ∀ m : Nat, m + d = l.length →
    Ev (fun k => spec_FitsRing.l2 k l a b l l.length i l l.length j l l.length m) (if ((l.drop m).any fun c => nw a b && (nw b c && nw c a)) = true then (false, true) else r) := by
  induction d with
  | zero =>
    intro m hm
    rw [List.drop_of_length_le (by omega)]
    exact Ev.step (fun k => by simp only [spec_FitsRing.l2]; rw [if_neg (by omega)]) h
  | succ d ih =>
    intro m hm
    rw [drop_i l m (by omega), List.any_cons]
    have ih := ih (m + 1) (by omega)
    by_cases hb : (nw a b && (nw b (rd l m) && nw (rd l m) a)) = true
    · rw [hb, Bool.true_or, if_pos rfl]
      simp only [Bool.and_eq_true] at hb
      refine Ev.step (f := fun _ => some (false, true)) (fun k => ?_) (Ev.now _)
      simp only [spec_FitsRing.l2]
      rw [if_pos (by omega), if_pos (by omega), if_pos (by omega), spec_newer, spec_newer, spec_newer]
      simp [hb]
    · rw [Bool.eq_false_iff.mpr hb, Bool.false_or]
      refine Ev.step (fun k => ?_) ih
      simp only [spec_FitsRing.l2]
      rw [if_pos (by omega), if_pos (by omega), if_pos (by omega), spec_newer, spec_newer, spec_newer, wi _ (by omega)]
      simp only [Option.bind_some]
      cases h1 : nw a b
      · simp
      · cases h2 : nw b (rd l m)
        · simp
        · cases h3 : nw (rd l m) a
          · simp
          · simp [h1, h2, h3] at hb
theorem spec_ring1 (l : List Int) (hl : l.length ≤ 40) (a i : Int) (r : Bool × Bool) (h : Ev (fun k => spec_FitsRing.l0 k l l l.length (wrap64 (i + 1))) r) (d : Nat) : ∀ j : Nat, j + d = l.length →
    Ev (fun k => spec_FitsRing.l1 k l a l l.length i l l.length j) (if ((l.drop j).any fun b => bad l a b) = true then (false, true) else r) := by
  induction d with
  | zero =>
    intro j hj
    rw [List.drop_of_length_le (by omega)]
    exact Ev.step (fun k => by simp only [spec_FitsRing.l1]; rw [if_neg (by omega)]) h
  | succ d ih =>
    intro j hj
    rw [drop_i l j (by omega), List.any_cons]
    have ih := ih (j + 1) (by omega)
    have h3 : Ev (fun k => spec_FitsRing.j3 k l a (rd l j) l l.length i l l.length j (!(a == rd l j) && (!nw a (rd l j) && !nw (rd l j) a))) (if (bad l a (rd l j) || (l.drop (j + 1)).any fun b => bad l a b) = true then (false, true) else r) := by
      cases hb : (!(a == rd l j) && (!nw a (rd l j) && !nw (rd l j) a))
      · have h2 := spec_ring2 l hl a (rd l j) i j _ (by rw [wi _ (by omega)]; exact ih) l.length 0 (by omega)
        refine Ev.step (fun k => by simp only [spec_FitsRing.j3]; rw [if_neg (by decide)]) ?_
        have e : (if (bad l a (rd l j) || (l.drop (j + 1)).any fun b => bad l a b) = true then ((false, true) : Bool × Bool) else r) = (if ((l.drop 0).any fun c => nw a (rd l j) && (nw (rd l j) c && nw c a)) = true then (false, true) else (if ((l.drop (j + 1)).any fun b => bad l a b) = true then (false, true) else r)) := by
          unfold bad
          rw [hb, Bool.false_or, List.drop_zero]
          cases (l.any fun c => nw a (rd l j) && (nw (rd l j) c && nw c a)) <;> simp
        rw [e]
        exact h2
      · refine Ev.step (f := fun _ => some (false, true)) (fun k => by simp only [spec_FitsRing.j3, if_true]) ?_
        unfold bad
        rw [hb]
        simp only [Bool.true_or, if_true]
        exact Ev.now _
    refine Ev.step (fun k => ?_) h3
    simp only [spec_FitsRing.l1]
    rw [if_pos (by omega), if_pos (by omega), if_pos (by omega), spec_newer, spec_newer]
    simp only [Option.bind_some]
    by_cases e : a = rd l j
    · rw [if_pos e, e]
      simp
    · rw [if_neg e, show (a == rd l j) = false from beq_eq_false_iff_ne.2 e]
      cases h1 : nw a (rd l j)
      · simp
      · simp
theorem spec_ring0 (l : List Int) (hl : l.length ≤ 40) (d : Nat) : ∀ i : Nat, i + d = l.length →
    Ev (fun k => spec_FitsRing.l0 k l l l.length i) (!((l.drop i).any fun a => l.any fun b => bad l a b), true) := by
  induction d with
  | zero =>
    intro i hi
    rw [List.drop_of_length_le (by omega), List.any_nil]
    exact Ev.step (fun k => by simp only [spec_FitsRing.l0]; rw [if_neg (by omega)]; rfl) (Ev.now _)
  | succ d ih =>
    intro i hi
    rw [drop_i l i (by omega), List.any_cons]
    have h1 := spec_ring1 l hl (rd l i) i _ (by rw [wi _ (by omega)]; exact ih (i + 1) (by omega)) l.length 0 (by omega)
    refine Ev.step (fun k => by simp only [spec_FitsRing.l0]; rw [if_pos (by omega), if_pos (by omega), if_pos (by omega)]) ?_
    rw [List.drop_zero] at h1
    cases hb : (l.any fun b => bad l (rd l i) b)
    · rw [hb] at h1
      simpa using h1
    · rw [hb] at h1
      simpa using h1
/-- What FitsRing tells of numbers of the round. -/
def fits (l : List Int) : Bool × Bool := if l.length ≤ 40 ∧ (l.all fun x => decide (0 ≤ x ∧ x ≤ 63)) = true then (!(l.any fun a => l.any fun b => bad l a b), true) else (false, false)
theorem spec_fits (l : List Int) (hn : l.length ≤ 4611686018427387904) : Ev (fun k => spec_FitsRing.f k l) (fits l) := by
  unfold fits
  by_cases h : l.length ≤ 40
  · cases ha : (l.all fun x => decide (0 ≤ x ∧ x ≤ 63))
    · rw [if_neg (by simp)]
      refine ev_ge (l.length + 2) (fun k hk => ?_)
      unfold spec_FitsRing.f
      rw [if_neg (by omega), spec_l1All_eq _ _ _ _ hn (by omega), ha]
      obtain ⟨k, rfl⟩ : ∃ m, k = m + 1 := ⟨k - 1, by omega⟩
      simp [spec_FitsRing.j0]
    · rw [if_pos ⟨h, rfl⟩]
      obtain ⟨K, h0⟩ := spec_ring0 l h l.length 0 (by omega)
      rw [List.drop_zero] at h0
      refine ev_ge (K + l.length + 2) (fun k hk => ?_)
      unfold spec_FitsRing.f
      rw [if_neg (by omega), spec_l1All_eq _ _ _ _ hn (by omega), ha]
      obtain ⟨k, rfl⟩ : ∃ m, k = m + 1 := ⟨k - 1, by omega⟩
      simp only [Option.bind_some, Bool.not_true, spec_FitsRing.j0]
      rw [if_neg (by decide)]
      exact h0 k (by omega)
  · rw [if_neg (fun e => h e.1)]
    refine ev_ge 1 (fun k hk => ?_)
    unfold spec_FitsRing.f
    rw [if_pos (by omega)]
    obtain ⟨k, rfl⟩ : ∃ m, k = m + 1 := ⟨k - 1, by omega⟩
    simp [spec_FitsRing.j0]
theorem impl_ring2 (l : List Int) (hl : l.length ≤ 40) (a b i j : Int) (r : Bool × Bool) (h : Ev (fun k => impl_FitsRing.l1 k l a l l.length i l l.length (wrap64 (j + 1))) r) (d : Nat) : ∀ m : Nat, m + d = l.length →
    Ev (fun k => impl_FitsRing.l2 k l a b l l.length i l l.length j l l.length m) (if ((l.drop m).any fun c => nw b c && nw c a) = true then (false, true) else r) := by
  induction d with
  | zero =>
    intro m hm
    rw [List.drop_of_length_le (by omega)]
    exact Ev.step (fun k => by simp only [impl_FitsRing.l2]; rw [if_neg (by omega)]) h
  | succ d ih =>
    intro m hm
    rw [drop_i l m (by omega), List.any_cons]
    have ih := ih (m + 1) (by omega)
    by_cases hb : (nw b (rd l m) && nw (rd l m) a) = true
    · rw [hb, Bool.true_or, if_pos rfl]
      simp only [Bool.and_eq_true] at hb
      refine Ev.step (f := fun _ => some (false, true)) (fun k => ?_) (Ev.now _)
      simp only [impl_FitsRing.l2]
      rw [if_pos (by omega), if_pos (by omega), if_pos (by omega), impl_newer, impl_newer]
      simp [hb]
    · rw [Bool.eq_false_iff.mpr hb, Bool.false_or]
      refine Ev.step (fun k => ?_) ih
      simp only [impl_FitsRing.l2]
      rw [if_pos (by omega), if_pos (by omega), if_pos (by omega), impl_newer, impl_newer, wi _ (by omega)]
      simp only [Option.bind_some]
      cases h2 : nw b (rd l m)
      · simp
      · cases h3 : nw (rd l m) a
        · simp
        · simp [h2, h3] at hb
theorem impl_ring1 (l : List Int) (hl : l.length ≤ 40) (a i : Int) (ha : 0 ≤ a ∧ a ≤ 63) (hr : ∀ x ∈ l, 0 ≤ x ∧ x ≤ 63) (r : Bool × Bool) (h : Ev (fun k => impl_FitsRing.l0 k l l l.length (wrap64 (i + 1))) r) (d : Nat) : ∀ j : Nat, j + d = l.length →
    Ev (fun k => impl_FitsRing.l1 k l a l l.length i l l.length j) (if ((l.drop j).any fun b => bad l a b) = true then (false, true) else r) := by
  induction d with
  | zero =>
    intro j hj
    rw [List.drop_of_length_le (by omega)]
    exact Ev.step (fun k => by simp only [impl_FitsRing.l1]; rw [if_neg (by omega)]) h
  | succ d ih =>
    intro j hj
    rw [drop_i l j (by omega), List.any_cons]
    have ih := ih (j + 1) (by omega)
    have hb := hr _ (rd_mem l j (by omega))
    have en : (nw a (rd l j) == nw (rd l j) a) = (!nw a (rd l j) && !nw (rd l j) a) := by
      cases h1 : nw a (rd l j)
      · cases nw (rd l j) a <;> rfl
      · rw [nw_anti _ _ ha hb h1]
        rfl
    have h3 : Ev (fun k => impl_FitsRing.j3 k l a (rd l j) l l.length i l l.length j (!(a == rd l j) && (!nw a (rd l j) && !nw (rd l j) a))) (if (bad l a (rd l j) || (l.drop (j + 1)).any fun b => bad l a b) = true then (false, true) else r) := by
      cases hb : (!(a == rd l j) && (!nw a (rd l j) && !nw (rd l j) a))
      · cases h1 : nw a (rd l j)
        · have e : bad l a (rd l j) = false := by
            unfold bad
            rw [hb, h1]
            simp
          rw [e, Bool.false_or]
          refine Ev.step (fun k => ?_) ih
          simp only [impl_FitsRing.j3]
          rw [if_neg (by decide), impl_newer, h1, wi _ (by omega)]
          rfl
        · have h2 := impl_ring2 l hl a (rd l j) i j _ (by rw [wi _ (by omega)]; exact ih) l.length 0 (by omega)
          refine Ev.step (fun k => ?_) (f := fun k => impl_FitsRing.l2 k l a (rd l j) l l.length i l l.length j l l.length (0 : Nat)) ?_
          · simp only [impl_FitsRing.j3]
            rw [if_neg (by decide), impl_newer, h1]
            rfl
          have e : (if (bad l a (rd l j) || (l.drop (j + 1)).any fun b => bad l a b) = true then ((false, true) : Bool × Bool) else r) = (if ((l.drop 0).any fun c => nw (rd l j) c && nw c a) = true then (false, true) else (if ((l.drop (j + 1)).any fun b => bad l a b) = true then (false, true) else r)) := by
            unfold bad
            rw [hb, h1, Bool.false_or, List.drop_zero]
            simp only [Bool.true_and]
            cases (l.any fun c => nw (rd l j) c && nw c a) <;> simp
          rw [e]
          exact h2
      · refine Ev.step (f := fun _ => some (false, true)) (fun k => by simp only [impl_FitsRing.j3, if_true]) ?_
        unfold bad
        rw [hb]
        simp only [Bool.true_or, if_true]
        exact Ev.now _
    refine Ev.step (fun k => ?_) h3
    simp only [impl_FitsRing.l1]
    rw [if_pos (by omega), if_pos (by omega), if_pos (by omega), impl_newer, impl_newer]
    simp only [Option.bind_some]
    by_cases e : a = rd l j
    · rw [if_pos e, e]
      simp
    · rw [if_neg e, show (a == rd l j) = false from beq_eq_false_iff_ne.2 e, en]
      rfl
theorem impl_ring0 (l : List Int) (hl : l.length ≤ 40) (hr : ∀ x ∈ l, 0 ≤ x ∧ x ≤ 63) (d : Nat) : ∀ i : Nat, i + d = l.length →
    Ev (fun k => impl_FitsRing.l0 k l l l.length i) (!((l.drop i).any fun a => l.any fun b => bad l a b), true) := by
  induction d with
  | zero =>
    intro i hi
    rw [List.drop_of_length_le (by omega), List.any_nil]
    exact Ev.step (fun k => by simp only [impl_FitsRing.l0]; rw [if_neg (by omega)]; rfl) (Ev.now _)
  | succ d ih =>
    intro i hi
    rw [drop_i l i (by omega), List.any_cons]
    have h1 := impl_ring1 l hl (rd l i) i (hr _ (rd_mem l i (by omega))) hr _ (by rw [wi _ (by omega)]; exact ih (i + 1) (by omega)) l.length 0 (by omega)
    refine Ev.step (fun k => by simp only [impl_FitsRing.l0]; rw [if_pos (by omega), if_pos (by omega), if_pos (by omega)]) ?_
    rw [List.drop_zero] at h1
    cases hb : (l.any fun b => bad l (rd l i) b)
    · rw [hb] at h1
      simpa using h1
    · rw [hb] at h1
      simpa using h1
theorem impl_fits (l : List Int) (hn : l.length ≤ 4611686018427387904) : Ev (fun k => impl_FitsRing.f k l) (fits l) := by
  unfold fits
  by_cases h : l.length ≤ 40
  · cases ha : (l.all fun x => decide (0 ≤ x ∧ x ≤ 63))
    · rw [if_neg (by simp)]
      refine ev_ge (l.length + 2) (fun k hk => ?_)
      unfold impl_FitsRing.f
      rw [if_neg (by omega), impl_allIn_eq _ _ _ _ hn (by omega), ha]
      obtain ⟨k, rfl⟩ : ∃ m, k = m + 1 := ⟨k - 1, by omega⟩
      simp [impl_FitsRing.j0]
    · rw [if_pos ⟨h, rfl⟩]
      have hr : ∀ x ∈ l, 0 ≤ x ∧ x ≤ 63 := fun x hx => by simpa using List.all_eq_true.1 ha x hx
      obtain ⟨K, h0⟩ := impl_ring0 l h hr l.length 0 (by omega)
      rw [List.drop_zero] at h0
      refine ev_ge (K + l.length + 2) (fun k hk => ?_)
      unfold impl_FitsRing.f
      rw [if_neg (by omega), impl_allIn_eq _ _ _ _ hn (by omega), ha]
      obtain ⟨k, rfl⟩ : ∃ m, k = m + 1 := ⟨k - 1, by omega⟩
      simp only [Option.bind_some, Bool.not_true, impl_FitsRing.j0]
      rw [if_neg (by decide)]
      exact h0 k (by omega)
  · rw [if_neg (fun e => h e.1)]
    refine ev_ge 1 (fun k hk => ?_)
    unfold impl_FitsRing.f
    rw [if_pos (by omega)]
    obtain ⟨k, rfl⟩ : ∃ m, k = m + 1 := ⟨k - 1, by omega⟩
    simp [impl_FitsRing.j0]

-- draws
theorem wraps_u64 (n : Int) (h₀ : 0 ≤ n) (h₁ : n < 2 ^ 24) : IntKind.u64.wrap n = n := by
  have h : n < 16777216 := h₁
  rw [IntKind.wrap_u64]
  omega
theorem letterOf (y : Int) : 0 ≤ wrap64 (Go.bits .and .u64 (IntKind.u64.wrap y / 1099511627776) 255) ∧ wrap64 (Go.bits .and .u64 (IntKind.u64.wrap y / 1099511627776) 255) ≤ 255 := by
  have hw := IntKind.wrap_u64 y
  have e : Go.bits .and .u64 (IntKind.u64.wrap y / 1099511627776) 255 = (IntKind.u64.wrap y / 1099511627776) % 256 :=
    bits_mask .u64 24 (by decide) wraps_u64 8 (by decide) _ (by omega) (by show _ < (16777216 : Int); omega)
  rw [e, w64 (by omega) (by omega)]
  omega
/-- The bytes that a drawer reads. -/
def Drawn (l : List Int) : Prop := (∀ x ∈ l, 0 ≤ x ∧ x ≤ 255) ∧ l.length ≤ 1125899906842624
theorem draw_next (l : List Int) (hl : Drawn l) (p st : Int) (h0 : 0 ≤ p) (h1 : p ≤ 1125899906842624) : ∃ v q, spec_l1Cur_next.f l p st = some (v, p + 1, q) ∧ 0 ≤ v ∧ v ≤ 255 := by
  obtain ⟨hl, hn⟩ := hl
  unfold spec_l1Cur_next.f
  rw [w64 (x := p + 1) (by omega) (by omega)]
  by_cases h : p < (l.length : Int)
  · have hm := hl _ (rd_mem l p.toNat (by omega))
    rw [Int.toNat_of_nonneg h0] at hm
    rw [if_pos h, if_pos h0, if_pos (by omega), w64 (x := rd l p) (by omega) (by omega)]
    exact ⟨_, _, rfl, hm⟩
  · rw [if_neg h, if_neg (by omega)]
    exact ⟨_, _, rfl, letterOf _⟩
theorem draw_pick (l : List Int) (hl : Drawn l) (p st n : Int) (h0 : 0 ≤ p) (h1 : p ≤ 1000000000000) (hn : 1 ≤ n) : ∃ v p' q, spec_l1Cur_pick.f l p st n = some (v, p', q) ∧ (0 ≤ v ∧ v < n) ∧ p ≤ p' ∧ p' ≤ p + 2 := by
  unfold spec_l1Cur_pick.f
  by_cases h : n ≤ 1
  · rw [if_pos h]
    exact ⟨_, _, _, rfl, by omega, by omega, by omega⟩
  · obtain ⟨a, q, e, ha⟩ := draw_next l hl p st h0 (by omega)
    rw [if_neg h, e]
    simp only [Option.bind_some]
    by_cases h2 : n > 200
    · obtain ⟨b, q2, e2, hb⟩ := draw_next l hl (p + 1) q (by omega) (by omega)
      rw [if_pos h2, e2]
      simp only [Option.bind_some]
      rw [if_neg (by omega), w64 (x := a * 256) (by omega) (by omega), w64 (by omega) (by omega), tm (by omega)]
      exact ⟨_, _, _, rfl, ⟨Int.emod_nonneg _ (by omega), Int.emod_lt_of_pos _ (by omega)⟩, by omega, by omega⟩
    · rw [if_neg h2, if_neg (by omega), tm (by omega)]
      exact ⟨_, _, _, rfl, ⟨Int.emod_nonneg _ (by omega), Int.emod_lt_of_pos _ (by omega)⟩, by omega, by omega⟩
theorem draw_among (l : List Int) (hl : Drawn l) (p st : Int) (m : List Int) (h0 : 0 ≤ p) (h1 : p ≤ 1000000000000) (hm : 1 ≤ m.length) : ∃ v p' q, spec_l1Cur_among.f l p st m = some (v, p', q) ∧ v ∈ m ∧ p ≤ p' ∧ p' ≤ p + 2 := by
  obtain ⟨v, p', q, e, hv, hp⟩ := draw_pick l hl p st (m.length : Int) h0 h1 (by omega)
  unfold spec_l1Cur_among.f
  rw [e]
  simp only [Option.bind_some]
  rw [if_pos hv.1, if_pos hv.2]
  refine ⟨_, _, _, rfl, ?_, hp⟩
  have := rd_mem m v.toNat (by omega)
  rwa [Int.toNat_of_nonneg hv.1] at this

-- drawone
theorem draw_one (l : List Int) (hl : Drawn l) (p st n : Int) (h0 : 0 ≤ p) (h1 : p ≤ 1000000000000) (hn : 1 ≤ n) : ∃ b p' q, spec_l1Cur_one.f l p st n = some (b, p', q) ∧ p ≤ p' ∧ p' ≤ p + 2 := by
  obtain ⟨v, p', q, e, _, hp⟩ := draw_pick l hl p st n h0 h1 hn
  unfold spec_l1Cur_one.f
  rw [e]
  exact ⟨_, _, _, rfl, hp⟩

-- drawseq
theorem draw_seq (l : List Int) (hl : Drawn l) (p st : Int) (h0 : 0 ≤ p) (h1 : p ≤ 100000000000) : ∃ v p' q, spec_l1Cur_seq.f l p st = some (v, p', q) ∧ (-1 ≤ v ∧ v ≤ 64) ∧ p ≤ p' ∧ p' ≤ p + 6 := by
  unfold spec_l1Cur_seq.f
  obtain ⟨a, p1, q1, e1, ha, hp1⟩ := draw_pick l hl p st 64 h0 (by omega) (by omega)
  obtain ⟨b, p2, q2, e2, hb, hp2⟩ := draw_pick l hl p1 q1 64 (by omega) (by omega) (by omega)
  obtain ⟨c, p3, q3, e3, hc, hp3⟩ := draw_among l hl p2 q2 [(-1), 0, 1, 31, 32, 33, 63, 64, a, b] (by omega) (by omega) (by simp)
  rw [e1]
  simp only [Option.bind_some]
  rw [e2]
  simp only [Option.bind_some]
  rw [e3]
  refine ⟨c, p3, q3, rfl, ?_, by omega, by omega⟩
  simp only [List.mem_cons, List.not_mem_nil, or_false] at hc
  omega

-- seqs
def sq (x : Int) : Bool := decide (0 ≤ x ∧ x ≤ 63)
theorem spec_seq (a : Int) : spec_l5Seq.f a = some (sq a) := by
  unfold spec_l5Seq.f spec_l1In.f sq
  by_cases h : a ≥ 0
  · rw [if_pos h]; simp [show (0 : Int) ≤ a from h]
  · rw [if_neg h]; simp [show ¬ (0 : Int) ≤ a from h]
theorem impl_seq (a : Int) : impl_isSeq.f a = some (sq a) := by
  unfold impl_isSeq.f impl_in.f sq
  by_cases h : a ≥ 0
  · rw [if_pos h]; simp [show (0 : Int) ≤ a from h]
  · rw [if_neg h]; simp [show ¬ (0 : Int) ≤ a from h]

theorem next_both (a : Int) (ha : -1 ≤ a ∧ a ≤ 64) : spec_NextSeq.f a = some (if sq a = true then ((a + 1) % 64, true) else (0, false)) ∧ impl_NextSeq.f a = some (if sq a = true then ((a + 1) % 64, true) else (0, false)) := by
  unfold spec_NextSeq.f impl_NextSeq.f
  rw [spec_seq, impl_seq]
  simp only [Option.bind_some]
  rw [w64 (by omega) (by omega), tm (by omega)]
  by_cases h : sq a = true
  · rw [if_pos h, if_pos h]; exact ⟨rfl, rfl⟩
  · rw [if_neg h, if_neg h]; exact ⟨rfl, rfl⟩
theorem steps_both (a b : Int) (ha : -1 ≤ a ∧ a ≤ 64) (hb : -1 ≤ b ∧ b ≤ 64) : spec_StepsTo.f a b = some (if sq a = true ∧ sq b = true then ((b - a + 64) % 64, true) else (0, false)) ∧ impl_StepsTo.f a b = some (if sq a = true ∧ sq b = true then ((b - a + 64) % 64, true) else (0, false)) := by
  unfold spec_StepsTo.f impl_StepsTo.f spec_l5Steps.f impl_stepsTo.f
  rw [spec_seq, impl_seq, spec_seq, impl_seq]
  simp only [Option.bind_some]
  by_cases h : sq a = true
  · rw [if_pos h]
    by_cases h2 : sq b = true
    · rw [if_pos h2, if_pos ⟨h, h2⟩, w64 (x := b - a) (by omega) (by omega), w64 (by omega) (by omega)]
      have := of_decide_eq_true h
      have := of_decide_eq_true h2
      rw [tm (by omega)]
      exact ⟨rfl, rfl⟩
    · rw [if_neg h2, if_neg (fun e => h2 e.2)]; exact ⟨rfl, rfl⟩
  · rw [if_neg h, if_neg (fun e => h e.1)]; exact ⟨rfl, rfl⟩
theorem newer_both (a b : Int) : spec_IsNewer.f a b = some (if sq a = true ∧ sq b = true then (nw a b, true) else (false, false)) ∧ impl_IsNewer.f a b = some (if sq a = true ∧ sq b = true then (nw a b, true) else (false, false)) := by
  unfold spec_IsNewer.f impl_IsNewer.f
  rw [spec_seq, impl_seq, spec_seq, impl_seq, spec_newer, impl_newer]
  simp only [Option.bind_some]
  by_cases h : sq a = true
  · rw [if_pos h]
    by_cases h2 : sq b = true
    · rw [if_pos h2, if_pos ⟨h, h2⟩]; exact ⟨rfl, rfl⟩
    · rw [if_neg h2, if_neg (fun e => h2 e.2)]; exact ⟨rfl, rfl⟩
  · rw [if_neg h, if_neg (fun e => h e.1)]; exact ⟨rfl, rfl⟩
theorem draw_fits_l (l : List Int) (hl : Drawn l) (b : Int) (hb : 0 ≤ b ∧ b ≤ 63) (d : Nat) (hd : d ≤ 41) : ∀ (x : List Int) (p st : Int), x.length + d ≤ 41 → (∀ y ∈ x, 0 ≤ y ∧ y ≤ 63) → 0 ≤ p → p + 4 * d ≤ 1000 →
    ∃ r : List Int, (∀ k, d < k → spec_DrawFitsRing.l0 k x d b l p st = some r) ∧ r.length ≤ 41 ∧ ∀ y ∈ r, 0 ≤ y ∧ y ≤ 63 := by
  induction d with
  | zero =>
    intro x p st hx hm h0 h1
    refine ⟨x, fun k hk => ?_, by omega, hm⟩
    obtain ⟨k, rfl⟩ : ∃ m, k = m + 1 := ⟨k - 1, by omega⟩
    simp only [spec_DrawFitsRing.l0]
    rw [if_neg (by omega)]
  | succ d ih =>
    intro x p st hx hm h0 h1
    obtain ⟨c, p1, q1, e1, hp1⟩ := draw_one l hl p st 2 h0 (by omega) (by omega)
    obtain ⟨u, p2, q2, e2, hu, hp2⟩ := draw_pick l hl p1 q1 20 (by omega) (by omega) (by omega)
    obtain ⟨v, p3, q3, e3, hv, hp3⟩ := draw_pick l hl p1 q1 64 (by omega) (by omega) (by omega)
    have g : x.length < 17592186044416 := by omega
    have run (k : Nat) : spec_DrawFitsRing.l0 (k + 1) x ((d + 1 : Nat) : Int) b l p st = if c = true then spec_DrawFitsRing.l0 k (x ++ [(b + u) % 64]) d b l p2 q2 else spec_DrawFitsRing.l0 k (x ++ [v]) d b l p3 q3 := by
      simp only [spec_DrawFitsRing.l0]
      rw [if_pos (by omega), e1]
      simp only [Option.bind_some]
      rw [e2, e3]
      simp only [Option.bind_some]
      rw [if_pos g, if_pos g, w64 (x := ((d + 1 : Nat) : Int) - 1) (by omega) (by omega), show ((d + 1 : Nat) : Int) - 1 = (d : Int) by omega, w64 (by omega) (by omega), tm (by omega)]
    have more (z p' q' : Int) (hz : 0 ≤ z ∧ z ≤ 63) (h0 : 0 ≤ p') (h1 : p' + 4 * d ≤ 1000) := ih (by omega) (x ++ [z]) p' q' (by rw [List.length_append, List.length_singleton]; omega) (fun y hy => by
      rcases List.mem_append.1 hy with hy | hy
      · exact hm y hy
      · rw [List.mem_singleton.1 hy]
        omega) h0 h1
    by_cases h : c = true
    · obtain ⟨r, hr, hs⟩ := more ((b + u) % 64) p2 q2 (by omega) (by omega) (by omega)
      refine ⟨r, fun k hk => ?_, hs⟩
      obtain ⟨k, rfl⟩ : ∃ m, k = m + 1 := ⟨k - 1, by omega⟩
      rw [run, if_pos h]
      exact hr k (by omega)
    · obtain ⟨r, hr, hs⟩ := more v p3 q3 (by omega) (by omega) (by omega)
      refine ⟨r, fun k hk => ?_, hs⟩
      obtain ⟨k, rfl⟩ : ∃ m, k = m + 1 := ⟨k - 1, by omega⟩
      rw [run, if_neg h]
      exact hr k (by omega)
theorem draw_fits (l : List Int) (hl : Drawn l) : ∃ r : List Int, (∀ k, 44 < k → spec_DrawFitsRing.f k l = some r) ∧ r.length ≤ 41 ∧ ∀ y ∈ r, 0 ≤ y ∧ y ≤ 63 := by
  have j (n p st : Int) (hn : 0 ≤ n ∧ n ≤ 41) (h0 : 0 ≤ p) (h1 : p ≤ 100) : ∃ r : List Int, (∀ k, 44 < k → spec_DrawFitsRing.j0 k ([] : List Int) n l p st = some r) ∧ r.length ≤ 41 ∧ ∀ y ∈ r, 0 ≤ y ∧ y ≤ 63 := by
    obtain ⟨b, p1, q1, e1, hb, hp⟩ := draw_pick l hl p st 64 h0 (by omega) (by omega)
    obtain ⟨d, rfl⟩ : ∃ d : Nat, n = (d : Int) := ⟨n.toNat, by omega⟩
    obtain ⟨r, hr, hs⟩ := draw_fits_l l hl b (by omega) d (by omega) [] p1 q1 (by simp; omega) (fun y hy => absurd hy List.not_mem_nil) (by omega) (by omega)
    refine ⟨r, fun k hk => ?_, hs⟩
    obtain ⟨k, rfl⟩ : ∃ m, k = m + 1 := ⟨k - 1, by omega⟩
    simp only [spec_DrawFitsRing.j0]
    rw [e1]
    simp only [Option.bind_some]
    exact hr k (by omega)
  unfold spec_DrawFitsRing.f
  obtain ⟨a, p1, q1, e1, ha, hp1⟩ := draw_pick l hl 0 0 6 (by omega) (by omega) (by omega)
  rw [e1]
  simp only [Option.bind_some]
  obtain ⟨c, p2, q2, e2, hp2⟩ := draw_one l hl p1 q1 20 (by omega) (by omega) (by omega)
  rw [e2]
  simp only [Option.bind_some]
  by_cases h : c = true
  · simp only [if_pos h]
    obtain ⟨b, p3, q3, e3, hb, hp3⟩ := draw_pick l hl p2 q2 2 (by omega) (by omega) (by omega)
    rw [e3]
    simp only [Option.bind_some]
    rw [w64 (by omega) (by omega)]
    exact j _ _ _ (by omega) (by omega) (by omega)
  · simp only [if_neg h]
    exact j _ _ _ (by omega) (by omega) (by omega)
theorem number_l (l : List Int) (hl : Drawn l) (d : Nat) : ∀ (i : Nat) (x : Int), i + d = l.length → 0 ≤ x ∧ x < 1000003 → ∃ r, (∀ k, d < k → laws_numberOf.l0 k x l l.length i = some r) ∧ 0 ≤ r ∧ r < 1000003 := by
  have hn := hl.2
  induction d with
  | zero =>
    intro i x h hx
    refine ⟨x, fun k hk => ?_, hx⟩
    obtain ⟨k, rfl⟩ : ∃ m, k = m + 1 := ⟨k - 1, by omega⟩
    simp only [laws_numberOf.l0]
    rw [if_neg (by omega)]
  | succ d ih =>
    intro i x h hx
    have hm := hl.1 _ (rd_mem l i (by omega))
    obtain ⟨r, hr, hs⟩ := ih (i + 1) ((31 * x + rd l i) % 1000003) (by omega) (by omega)
    refine ⟨r, fun k hk => ?_, hs⟩
    obtain ⟨k, rfl⟩ : ∃ m, k = m + 1 := ⟨k - 1, by omega⟩
    simp only [laws_numberOf.l0]
    rw [if_pos (by omega), if_pos (by omega), if_pos (by omega), w64 (x := (i : Int) + 1) (by omega) (by omega), show ((i : Int) + 1) = ((i + 1 : Nat) : Int) by omega,
      w64 (x := 31 * x) (by omega) (by omega), w64 (x := rd l i) (by omega) (by omega), w64 (by omega) (by omega), tm (by omega)]
    exact hr k (by omega)
theorem number_of (l : List Int) (hl : Drawn l) : ∃ r, (∀ k, l.length < k → laws_numberOf.f k l = some r) ∧ 0 ≤ r ∧ r < 1000003 := by
  unfold laws_numberOf.f
  simpa using number_l l hl l.length 0 0 (by omega) (by omega)
/-- Numbers within half of the round, from a base on. -/
def near (b x : Int) : Prop := ∃ y : Int, 0 ≤ y ∧ y < 32 ∧ x = (b + y) % 64
theorem near_fits (b : Int) (hb : 0 ≤ b ∧ b ≤ 63) (l : List Int) (hl : l.length ≤ 40) (h : ∀ x ∈ l, near b x) : fits l = (true, true) := by
  have hr : ∀ x ∈ l, 0 ≤ x ∧ x ≤ 63 := fun x hx => by
    obtain ⟨y, h0, h1, rfl⟩ := h x hx
    omega
  unfold fits
  rw [if_pos ⟨hl, List.all_eq_true.2 fun x hx => decide_eq_true (hr x hx)⟩]
  have : (l.any fun a => l.any fun c => bad l a c) = false := by
    rw [List.any_eq_false]
    intro a ha
    rw [Bool.not_eq_true, List.any_eq_false]
    intro c hc
    rw [Bool.not_eq_true]
    obtain ⟨u, u0, u1, ea⟩ := h a ha
    obtain ⟨v, v0, v1, ec⟩ := h c hc
    have ra := hr a ha
    have rc := hr c hc
    unfold bad
    rw [Bool.or_eq_false_iff]
    refine ⟨?_, ?_⟩
    · rw [nw_eq _ _ ra rc, nw_eq _ _ rc ra]
      by_cases e : a = c
      · simp [e]
      · have : (1 ≤ (a - c + 64) % 64 ∧ (a - c + 64) % 64 ≤ 31) ∨ (1 ≤ (c - a + 64) % 64 ∧ (c - a + 64) % 64 ≤ 31) := by omega
        rcases this with t | t
        · rw [decide_eq_true t]; simp
        · rw [decide_eq_true t]; simp
    · rw [List.any_eq_false]
      intro z hz
      obtain ⟨w, w0, w1, ez⟩ := h z hz
      have rz := hr z hz
      rw [nw_eq _ _ ra rc, nw_eq _ _ rc rz, nw_eq _ _ rz ra]
      simp only [Bool.and_eq_true, decide_eq_true_eq]
      omega
  rw [this]
  rfl
theorem last_l (b : Int) (hb : 0 ≤ b ∧ b ≤ 63) (l : List Int) (hn : l.length ≤ 41) (hl : ∀ y ∈ l, 0 ≤ y ∧ y ≤ 63) (d : Nat) : ∀ (i : Nat) (x : List Int), i + d = l.length → x.length ≤ i → (∀ y ∈ x, near b y) →
    Ev (fun k => laws_FnNewer.l0 k b x l l.length i) true := by
  induction d with
  | zero =>
    intro i x h hx hm
    obtain ⟨K, hf⟩ := impl_fits x (by omega)
    replace hf : ∀ k, K ≤ k → impl_FitsRing.f k x = some (fits x) := hf
    refine ev_ge (K + 1) fun k hk => ?_
    obtain ⟨k, rfl⟩ : ∃ m, k = m + 1 := ⟨k - 1, by omega⟩
    simp only [laws_FnNewer.l0]
    rw [if_neg (by omega), hf k (by omega)]
    simp only [Option.bind_some]
    by_cases g : (x.length : Int) > 40
    · rw [if_pos g]
    · rw [if_neg g, near_fits b hb x (by omega) hm]
      rfl
  | succ d ih =>
    intro i x h hx hm
    have hy := hl _ (rd_mem l i (by omega))
    have h1 := ih (i + 1) (x ++ [(b + rd l i % 32) % 64]) (by omega) (by rw [List.length_append, List.length_singleton]; omega) (fun y hy => by
      rcases List.mem_append.1 hy with hy | hy
      · exact hm y hy
      · exact ⟨rd l i % 32, by omega, by omega, List.mem_singleton.1 hy⟩)
    refine Ev.step (fun k => ?_) h1
    simp only [laws_FnNewer.l0]
    rw [if_pos (by omega), if_pos (by omega), if_pos (by omega), if_pos (show rd l (i : Int) ≥ 0 from hy.1), if_pos (by omega), tm (x := rd l (i : Int)) hy.1, w64 (x := (i : Int) + 1) (by omega) (by omega), show ((i : Int) + 1) = ((i + 1 : Nat) : Int) by omega, w64 (by omega) (by omega), tm (by omega)]
theorem FnNewer : laws_FnNewer.PureS := by
  intro l m ⟨hl, hl2⟩ ⟨hm, hm2⟩
  have u8 (x : Int) (h : (Lit.int .u8 x).wf = true) : 0 ≤ x ∧ x ≤ 255 := by
    simp [Lit.wf, IntKind.min, IntKind.max, IntKind.signed, IntKind.bits] at h
    omega
  have dl : Drawn l := ⟨fun x hx => u8 x (hl2 x hx), by omega⟩
  have dm : Drawn m := ⟨fun x hx => u8 x (hm2 x hx), by omega⟩
  -- the second half, from some number of rounds on
  have second : Ev (fun k => laws_FnNewer.j2 k l m) true := by
    obtain ⟨r, hr, hr1, hr2⟩ := draw_fits m dm
    obtain ⟨n, hn, hn0, hn1⟩ := number_of l dl
    obtain ⟨K1, h1⟩ := spec_fits r (by omega)
    obtain ⟨K2, h2⟩ := impl_fits r (by omega)
    replace h1 : ∀ k, K1 ≤ k → spec_FitsRing.f k r = some (fits r) := h1
    replace h2 : ∀ k, K2 ≤ k → impl_FitsRing.f k r = some (fits r) := h2
    obtain ⟨K3, h3⟩ := last_l (n % 64) (by omega) r hr1 hr2 r.length 0 [] (by omega) (by simp) (fun y hy => absurd hy List.not_mem_nil)
    replace h3 : ∀ k, K3 ≤ k → laws_FnNewer.l0 k (n % 64) [] r r.length ((0 : Nat) : Int) = some true := h3
    refine ev_ge (K1 + K2 + K3 + l.length + 50) fun k hk => ?_
    obtain ⟨k, rfl⟩ : ∃ m, k = m + 2 := ⟨k - 2, by omega⟩
    simp only [laws_FnNewer.j2]
    rw [hr _ (by omega)]
    simp only [Option.bind_some]
    rw [h1 _ (by omega), h2 _ (by omega)]
    simp only [Option.bind_some, bne_self_eq_false, Bool.false_eq_true, if_false]
    simp only [laws_FnNewer.j3, Bool.false_eq_true, if_false]
    rw [hn _ (by omega)]
    simp only [Option.bind_some]
    rw [tm hn0]
    exact h3 k (by omega)
  obtain ⟨K, hK⟩ := second
  replace hK : ∀ k, K ≤ k → laws_FnNewer.j2 k l m = some true := hK
  have h1 : laws_FnNewer.j1 (K + 1) l m false = some true := by
    rw [laws_FnNewer.j1, if_neg (by decide)]
    exact hK K (Nat.le_refl _)
  refine ⟨K + 2, ?_⟩
  unfold laws_FnNewer.f
  by_cases h0 : wrap64 ((l.length : Int) + (m.length : Int)) > 1048576
  · rw [if_pos h0]
  · rw [if_neg h0]
    obtain ⟨a, p1, q1, e1, ha, hp1⟩ := draw_seq l dl 0 0 (by omega) (by omega)
    obtain ⟨b, p2, q2, e2, hb, hp2⟩ := draw_seq l dl p1 q1 (by omega) (by omega)
    have ed : spec_DrawIsNewer.f l = some (a, b) := by
      unfold spec_DrawIsNewer.f
      rw [e1]
      simp only [Option.bind_some]
      rw [e2]
      rfl
    rw [ed]
    simp only [Option.bind_some]
    rw [(newer_both a b).1, (newer_both a b).2, (steps_both a b ha hb).1, (steps_both a b ha hb).2, (next_both a ha).1, (next_both a ha).2]
    simp only [Option.bind_some, bne_self_eq_false, Bool.false_eq_true, if_false, if_true]
    simp only [laws_FnNewer.j0, Bool.false_eq_true, if_false]
    by_cases h : sq a = true ∧ sq b = true
    · have ra := of_decide_eq_true h.1
      have rb := of_decide_eq_true h.2
      have hx : -1 ≤ (a + 1) % 64 ∧ (a + 1) % 64 ≤ 64 := by omega
      have hs : sq ((a + 1) % 64) = true := decide_eq_true (by omega)
      have hnx : nw ((a + 1) % 64) a = true := by
        rw [nw_eq _ _ (by omega) ra, decide_eq_true_eq]
        omega
      rw [if_pos h, if_pos h, if_pos h.1]
      simp only [if_true]
      rw [(newer_both b a).2, (steps_both b a hb ha).2, (newer_both _ a).2, if_pos h.symm, if_pos h.symm, if_pos ⟨hs, h.1⟩, hnx]
      simp only [Option.bind_some, if_true, Bool.not_true, h1]
      have hz : Int.tmod (wrap64 ((b - a + 64) % 64 + (a - b + 64) % 64)) 64 = 0 := by
        rw [w64 (by omega) (by omega), tm (by omega)]
        omega
      rw [if_pos hz, nw_eq _ _ ra rb, nw_eq _ _ rb ra]
      by_cases e : a = b
      · subst e
        rw [show (a - a + 64) % 64 = 0 by omega]
        simp
      · rw [if_neg e, if_neg e]
        by_cases t1 : 1 ≤ (a - b + 64) % 64 ∧ (a - b + 64) % 64 ≤ 31
        · rw [decide_eq_true t1, decide_eq_false (show ¬ (1 ≤ (b - a + 64) % 64 ∧ (b - a + 64) % 64 ≤ 31) by omega), beq_eq_false_iff_ne.2 (show (b - a + 64) % 64 ≠ 32 by omega)]
          simp
        · rw [decide_eq_false t1]
          by_cases t2 : (b - a + 64) % 64 = 32
          · rw [t2]
            simp
          · rw [beq_eq_false_iff_ne.2 t2, decide_eq_true (show 1 ≤ (b - a + 64) % 64 ∧ (b - a + 64) % 64 ≤ 31 by omega)]
            simp
    · rw [if_neg h]
      simp only [Bool.false_eq_true, if_false]
      exact hK (K + 1) (by omega)

end Go.Proofs.Ytaihdogejmdjnaa.Pure
