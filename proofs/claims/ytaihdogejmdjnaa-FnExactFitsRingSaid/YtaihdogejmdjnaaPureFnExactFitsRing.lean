/- FnExactFitsRing answers true for each list of numbers. No condition beyond the row's own bounds. -/
import Derived.Test.YtaihdogejmdjnaaSFnExactFitsRing
namespace Go.Proofs.Ytaihdogejmdjnaa.Pure
open Go.RowKit Go.Proofs.Ytaihdogejmdjnaa.PFnExactFitsRing Go.Proofs.YtaihdogejmdjnaaW.PrintWords Go.Proofs.YtaihdogejmdjnaaW.PrintLast
set_option linter.unusedVariables false
set_option linter.unusedSimpArgs false

-- w64
theorem w64 {x : Int} (h0 : -9223372036854775808 ≤ x) (h1 : x ≤ 9223372036854775807) : wrap64 x = x := by
  unfold wrap64
  omega
theorem tm {x y : Int} (h0 : 0 ≤ x) : Int.tmod x y = x % y := Int.tmod_eq_emod_of_nonneg h0
theorem wf64 {x : Int} (h : (Lit.int .i64 x).wf = true) : -9223372036854775808 ≤ x ∧ x ≤ 9223372036854775807 := by
  simp [Lit.wf, IntKind.min, IntKind.max, IntKind.signed, IntKind.bits] at h
  omega

-- helps
theorem set_take {α : Type} (m L : List α) (i : Nat) (hi : i < L.length) (hm : m.length = L.length) (ht : m.take i = L.take i) (v : α) (hv : L[i]? = some v) : (m.set i v).take (i + 1) = L.take (i + 1) := by
  rw [List.take_set, List.take_succ_eq_append_getElem (by omega), List.take_succ_eq_append_getElem hi, ht, List.set_append_right _ _ (by rw [List.length_take]; omega)]
  rw [List.length_take, show i - min i L.length = 0 by omega]
  rw [List.getElem?_eq_getElem hi] at hv
  rw [Option.some.inj hv]
  rfl
/-- From some number of rounds on: one number for a pair. -/
theorem ev_at {α : Type} {g : Nat → Option α} {r : α} (h : Ev g r) : ∃ K, ∀ k, K ≤ k → g k = some r := h
theorem ev_some {α : Type} {g : Nat → Option α} {r : α} (h : ∀ k, g k = some r) : Ev g r := ⟨0, fun k _ => h k⟩
theorem ev_ge {α : Type} {g : Nat → Option α} {r : α} (K : Nat) (h : ∀ k, K ≤ k → g k = some r) : Ev g r := ⟨K, h⟩

-- newer
/-- Is a newer than b, by the code's own sum. -/
def nw (a b : Int) : Bool := decide (1 ≤ Int.tmod (wrap64 ((wrap64 (a - b)) + 64)) 64 ∧ Int.tmod (wrap64 ((wrap64 (a - b)) + 64)) 64 ≤ 31)
theorem spec_newer (a b : Int) : spec_l5Newer.f a b = some (nw a b) := by
  unfold spec_l5Newer.f spec_l5Steps.f spec_l1In.f nw
  simp only [Option.bind_some, ge_iff_le]
  by_cases h : 1 ≤ Int.tmod (wrap64 ((wrap64 (a - b)) + 64)) 64
  · simp [h]
  · simp [h]
theorem impl_newer (a b : Int) : impl_isNewer.f a b = some (nw a b) := by
  unfold impl_isNewer.f impl_stepsTo.f impl_in.f nw
  simp only [Option.bind_some, ge_iff_le]
  by_cases h : 1 ≤ Int.tmod (wrap64 ((wrap64 (a - b)) + 64)) 64
  · simp [h]
  · simp [h]
theorem nw_self (a : Int) : nw a a = false := by
  unfold nw
  rw [Int.sub_self, w64 (x := 0) (by omega) (by omega), w64 (by omega) (by omega)]
  decide
theorem nw_eq (a b : Int) (ha : 0 ≤ a ∧ a ≤ 63) (hb : 0 ≤ b ∧ b ≤ 63) : nw a b = decide (1 ≤ (a - b + 64) % 64 ∧ (a - b + 64) % 64 ≤ 31) := by
  unfold nw
  rw [w64 (x := a - b) (by omega) (by omega), w64 (by omega) (by omega), tm (by omega)]
theorem nw_anti (a b : Int) (ha : 0 ≤ a ∧ a ≤ 63) (hb : 0 ≤ b ∧ b ≤ 63) (h : nw a b = true) : nw b a = false := by
  rw [nw_eq _ _ ha hb] at h
  rw [nw_eq _ _ hb ha]
  simp at h ⊢
  omega

-- dropi
theorem drop_i (l : List Int) (i : Nat) (h : i < l.length) : l.drop i = rd l i :: l.drop (i + 1) := by
  unfold rd
  rw [Int.toNat_natCast, List.getD_eq_getElem?_getD, List.getElem?_eq_getElem h]
  exact List.drop_eq_getElem_cons h
theorem rd_mem (l : List Int) (i : Nat) (h : i < l.length) : rd l i ∈ l := by
  unfold rd
  rw [Int.toNat_natCast, List.getD_eq_getElem?_getD, List.getElem?_eq_getElem h]
  exact List.getElem_mem h

-- inrange(spec_l1In)
theorem spec_l1In_eq (a lo hi : Int) : spec_l1In.f a lo hi = some (decide (lo ≤ a ∧ a ≤ hi)) := by
  unfold spec_l1In.f
  by_cases h : lo ≤ a
  · rw [if_pos (show a ≥ lo from h)]
    simp [h]
  · rw [if_neg (show ¬ a ≥ lo from h)]
    simp [h]

-- allin(spec_l1All,spec_l1In)
theorem spec_l1All_l (lo hi : Int) (l : List Int) (hn : l.length ≤ 4611686018427387904) (d : Nat) : ∀ (k i : Nat), i + d = l.length → d < k →
    spec_l1All.l0 k lo hi l l.length i = some ((l.drop i).all fun x => decide (lo ≤ x ∧ x ≤ hi)) := by
  induction d with
  | zero =>
    intro k i h hk
    obtain ⟨k, rfl⟩ : ∃ m, k = m + 1 := ⟨k - 1, by omega⟩
    simp only [spec_l1All.l0]
    rw [if_neg (by omega), List.drop_of_length_le (by omega)]
    rfl
  | succ d ih =>
    intro k i h hk
    obtain ⟨k, rfl⟩ : ∃ m, k = m + 1 := ⟨k - 1, by omega⟩
    have h1 := ih k (i + 1) (by omega) (by omega)
    have ea : l.drop i = rd l i :: l.drop (i + 1) := by
      unfold rd
      rw [Int.toNat_natCast, List.getD_eq_getElem?_getD, List.getElem?_eq_getElem (by omega)]
      exact List.drop_eq_getElem_cons (by omega)
    simp only [spec_l1All.l0]
    rw [if_pos (by omega), if_pos (by omega), if_pos (by omega), spec_l1In_eq, ea, List.all_cons]
    simp only [Option.bind_some]
    by_cases e : lo ≤ rd l i ∧ rd l i ≤ hi
    · rw [decide_eq_true e]
      simp only [if_true, Bool.true_and]
      rw [w64 (by omega) (by omega), show ((i : Int) + 1) = ((i + 1 : Nat) : Int) by omega]
      exact h1
    · rw [decide_eq_false e]
      simp
theorem spec_l1All_eq (l : List Int) (lo hi : Int) (k : Nat) (hn : l.length ≤ 4611686018427387904) (hk : l.length < k) : spec_l1All.f k l lo hi = some (l.all fun x => decide (lo ≤ x ∧ x ≤ hi)) := by
  have h := spec_l1All_l lo hi l hn l.length k 0 (by omega) hk
  unfold spec_l1All.f
  simpa using h

-- inrange(impl_in)
theorem impl_in_eq (a lo hi : Int) : impl_in.f a lo hi = some (decide (lo ≤ a ∧ a ≤ hi)) := by
  unfold impl_in.f
  by_cases h : lo ≤ a
  · rw [if_pos (show a ≥ lo from h)]
    simp [h]
  · rw [if_neg (show ¬ a ≥ lo from h)]
    simp [h]

-- allin(impl_allIn,impl_in)
theorem impl_allIn_l (lo hi : Int) (l : List Int) (hn : l.length ≤ 4611686018427387904) (d : Nat) : ∀ (k i : Nat), i + d = l.length → d < k →
    impl_allIn.l0 k lo hi l l.length i = some ((l.drop i).all fun x => decide (lo ≤ x ∧ x ≤ hi)) := by
  induction d with
  | zero =>
    intro k i h hk
    obtain ⟨k, rfl⟩ : ∃ m, k = m + 1 := ⟨k - 1, by omega⟩
    simp only [impl_allIn.l0]
    rw [if_neg (by omega), List.drop_of_length_le (by omega)]
    rfl
  | succ d ih =>
    intro k i h hk
    obtain ⟨k, rfl⟩ : ∃ m, k = m + 1 := ⟨k - 1, by omega⟩
    have h1 := ih k (i + 1) (by omega) (by omega)
    have ea : l.drop i = rd l i :: l.drop (i + 1) := by
      unfold rd
      rw [Int.toNat_natCast, List.getD_eq_getElem?_getD, List.getElem?_eq_getElem (by omega)]
      exact List.drop_eq_getElem_cons (by omega)
    simp only [impl_allIn.l0]
    rw [if_pos (by omega), if_pos (by omega), if_pos (by omega), impl_in_eq, ea, List.all_cons]
    simp only [Option.bind_some]
    by_cases e : lo ≤ rd l i ∧ rd l i ≤ hi
    · rw [decide_eq_true e]
      simp only [if_true, Bool.true_and]
      rw [w64 (by omega) (by omega), show ((i : Int) + 1) = ((i + 1 : Nat) : Int) by omega]
      exact h1
    · rw [decide_eq_false e]
      simp
theorem impl_allIn_eq (l : List Int) (lo hi : Int) (k : Nat) (hn : l.length ≤ 4611686018427387904) (hk : l.length < k) : impl_allIn.f k l lo hi = some (l.all fun x => decide (lo ≤ x ∧ x ≤ hi)) := by
  have h := impl_allIn_l lo hi l hn l.length k 0 (by omega) hk
  unfold impl_allIn.f
  simpa using h

-- ring
/-- Two numbers that no order fits, or three that go round. -/
def bad (l : List Int) (a b : Int) : Bool := (!(a == b) && (!nw a b && !nw b a)) || (l.any fun c => nw a b && (nw b c && nw c a))
theorem wi (i : Nat) (h : i ≤ 1000) : wrap64 ((i : Int) + 1) = ((i + 1 : Nat) : Int) := by
  rw [w64 (by omega) (by omega)]
  omega
theorem spec_ring2 (l : List Int) (hl : l.length ≤ 40) (a b i j : Int) (r : Bool × Bool) (h : Ev (fun k => spec_FitsRing.l1 k l a l l.length i l l.length (wrap64 (j + 1))) r) (d : Nat) : ∀ m : Nat, m + d = l.length →
    Ev (fun k => spec_FitsRing.l2 k l a b l l.length i l l.length j l l.length m) (if ((l.drop m).any fun c => nw a b && (nw b c && nw c a)) = true then (false, true) else r) := by
  induction d with
  | zero =>
    intro m hm
    rw [List.drop_of_length_le (by omega)]
    exact Ev.step (fun k => by simp only [spec_FitsRing.l2]; rw [if_neg (by omega)]) h
  | succ d ih =>
    intro m hm
    rw [drop_i l m (by omega), List.any_cons]
    have ih := ih (m + 1) (by omega)
    by_cases hb : (nw a b && (nw b (rd l m) && nw (rd l m) a)) = true
    · rw [hb, Bool.true_or, if_pos rfl]
      simp only [Bool.and_eq_true] at hb
      refine Ev.step (f := fun _ => some (false, true)) (fun k => ?_) (Ev.now _)
      simp only [spec_FitsRing.l2]
      rw [if_pos (by omega), if_pos (by omega), if_pos (by omega), spec_newer, spec_newer, spec_newer]
      simp [hb]
    · rw [Bool.eq_false_iff.mpr hb, Bool.false_or]
      refine Ev.step (fun k => ?_) ih
      simp only [spec_FitsRing.l2]
      rw [if_pos (by omega), if_pos (by omega), if_pos (by omega), spec_newer, spec_newer, spec_newer, wi _ (by omega)]
      simp only [Option.bind_some]
      cases h1 : nw a b
      · simp
      · cases h2 : nw b (rd l m)
        · simp
        · cases h3 : nw (rd l m) a
          · simp
          · simp [h1, h2, h3] at hb
theorem spec_ring1 (l : List Int) (hl : l.length ≤ 40) (a i : Int) (r : Bool × Bool) (h : Ev (fun k => spec_FitsRing.l0 k l l l.length (wrap64 (i + 1))) r) (d : Nat) : ∀ j : Nat, j + d = l.length →
    Ev (fun k => spec_FitsRing.l1 k l a l l.length i l l.length j) (if ((l.drop j).any fun b => bad l a b) = true then (false, true) else r) := by
  induction d with
  | zero =>
    intro j hj
    rw [List.drop_of_length_le (by omega)]
    exact Ev.step (fun k => by simp only [spec_FitsRing.l1]; rw [if_neg (by omega)]) h
  | succ d ih =>
    intro j hj
    rw [drop_i l j (by omega), List.any_cons]
    have ih := ih (j + 1) (by omega)
    have h3 : Ev (fun k => spec_FitsRing.j3 k l a (rd l j) l l.length i l l.length j (!(a == rd l j) && (!nw a (rd l j) && !nw (rd l j) a))) (if (bad l a (rd l j) || (l.drop (j + 1)).any fun b => bad l a b) = true then (false, true) else r) := by
      cases hb : (!(a == rd l j) && (!nw a (rd l j) && !nw (rd l j) a))
      · have h2 := spec_ring2 l hl a (rd l j) i j _ (by rw [wi _ (by omega)]; exact ih) l.length 0 (by omega)
        refine Ev.step (fun k => by simp only [spec_FitsRing.j3]; rw [if_neg (by decide)]) ?_
        have e : (if (bad l a (rd l j) || (l.drop (j + 1)).any fun b => bad l a b) = true then ((false, true) : Bool × Bool) else r) = (if ((l.drop 0).any fun c => nw a (rd l j) && (nw (rd l j) c && nw c a)) = true then (false, true) else (if ((l.drop (j + 1)).any fun b => bad l a b) = true then (false, true) else r)) := by
          unfold bad
          rw [hb, Bool.false_or, List.drop_zero]
          cases (l.any fun c => nw a (rd l j) && (nw (rd l j) c && nw c a)) <;> simp
        rw [e]
        exact h2
      · refine Ev.step (f := fun _ => some (false, true)) (fun k => by simp only [spec_FitsRing.j3, if_true]) ?_
        unfold bad
        rw [hb]
        simp only [Bool.true_or, if_true]
        exact Ev.now _
    refine Ev.step (fun k => ?_) h3
    simp only [spec_FitsRing.l1]
    rw [if_pos (by omega), if_pos (by omega), if_pos (by omega), spec_newer, spec_newer]
    simp only [Option.bind_some]
    by_cases e : a = rd l j
    · rw [if_pos e, e]
      simp
    · rw [if_neg e, show (a == rd l j) = false from beq_eq_false_iff_ne.2 e]
      cases h1 : nw a (rd l j)
      · simp
      · simp
theorem spec_ring0 (l : List Int) (hl : l.length ≤ 40) (d : Nat) : ∀ i : Nat, i + d = l.length →
    Ev (fun k => spec_FitsRing.l0 k l l l.length i) (!((l.drop i).any fun a => l.any fun b => bad l a b), true) := by
  induction d with
  | zero =>
    intro i hi
    rw [List.drop_of_length_le (by omega), List.any_nil]
    exact Ev.step (fun k => by simp only [spec_FitsRing.l0]; rw [if_neg (by omega)]; rfl) (Ev.now _)
  | succ d ih =>
    intro i hi
    rw [drop_i l i (by omega), List.any_cons]
    have h1 := spec_ring1 l hl (rd l i) i _ (by rw [wi _ (by omega)]; exact ih (i + 1) (by omega)) l.length 0 (by omega)
    refine Ev.step (fun k => by simp only [spec_FitsRing.l0]; rw [if_pos (by omega), if_pos (by omega), if_pos (by omega)]) ?_
    rw [List.drop_zero] at h1
    cases hb : (l.any fun b => bad l (rd l i) b)
    · rw [hb] at h1
      simpa using h1
    · rw [hb] at h1
      simpa using h1
/-- What FitsRing tells of numbers of the round. -/
def fits (l : List Int) : Bool × Bool := if l.length ≤ 40 ∧ (l.all fun x => decide (0 ≤ x ∧ x ≤ 63)) = true then (!(l.any fun a => l.any fun b => bad l a b), true) else (false, false)
theorem spec_fits (l : List Int) (hn : l.length ≤ 4611686018427387904) : Ev (fun k => spec_FitsRing.f k l) (fits l) := by
  unfold fits
  by_cases h : l.length ≤ 40
  · cases ha : (l.all fun x => decide (0 ≤ x ∧ x ≤ 63))
    · rw [if_neg (by simp)]
      refine ev_ge (l.length + 2) (fun k hk => ?_)
      unfold spec_FitsRing.f
      rw [if_neg (by omega), spec_l1All_eq _ _ _ _ hn (by omega), ha]
      obtain ⟨k, rfl⟩ : ∃ m, k = m + 1 := ⟨k - 1, by omega⟩
      simp [spec_FitsRing.j0]
    · rw [if_pos ⟨h, rfl⟩]
      obtain ⟨K, h0⟩ := spec_ring0 l h l.length 0 (by omega)
      rw [List.drop_zero] at h0
      refine ev_ge (K + l.length + 2) (fun k hk => ?_)
      unfold spec_FitsRing.f
      rw [if_neg (by omega), spec_l1All_eq _ _ _ _ hn (by omega), ha]
      obtain ⟨k, rfl⟩ : ∃ m, k = m + 1 := ⟨k - 1, by omega⟩
      simp only [Option.bind_some, Bool.not_true, spec_FitsRing.j0]
      rw [if_neg (by decide)]
      exact h0 k (by omega)
  · rw [if_neg (fun e => h e.1)]
    refine ev_ge 1 (fun k hk => ?_)
    unfold spec_FitsRing.f
    rw [if_pos (by omega)]
    obtain ⟨k, rfl⟩ : ∃ m, k = m + 1 := ⟨k - 1, by omega⟩
    simp [spec_FitsRing.j0]
theorem impl_ring2 (l : List Int) (hl : l.length ≤ 40) (a b i j : Int) (r : Bool × Bool) (h : Ev (fun k => impl_FitsRing.l1 k l a l l.length i l l.length (wrap64 (j + 1))) r) (d : Nat) : ∀ m : Nat, m + d = l.length →
    Ev (fun k => impl_FitsRing.l2 k l a b l l.length i l l.length j l l.length m) (if ((l.drop m).any fun c => nw b c && nw c a) = true then (false, true) else r) := by
  induction d with
  | zero =>
    intro m hm
    rw [List.drop_of_length_le (by omega)]
    exact Ev.step (fun k => by simp only [impl_FitsRing.l2]; rw [if_neg (by omega)]) h
  | succ d ih =>
    intro m hm
    rw [drop_i l m (by omega), List.any_cons]
    have ih := ih (m + 1) (by omega)
    by_cases hb : (nw b (rd l m) && nw (rd l m) a) = true
    · rw [hb, Bool.true_or, if_pos rfl]
      simp only [Bool.and_eq_true] at hb
      refine Ev.step (f := fun _ => some (false, true)) (fun k => ?_) (Ev.now _)
      simp only [impl_FitsRing.l2]
      rw [if_pos (by omega), if_pos (by omega), if_pos (by omega), impl_newer, impl_newer]
      simp [hb]
    · rw [Bool.eq_false_iff.mpr hb, Bool.false_or]
      refine Ev.step (fun k => ?_) ih
      simp only [impl_FitsRing.l2]
      rw [if_pos (by omega), if_pos (by omega), if_pos (by omega), impl_newer, impl_newer, wi _ (by omega)]
      simp only [Option.bind_some]
      cases h2 : nw b (rd l m)
      · simp
      · cases h3 : nw (rd l m) a
        · simp
        · simp [h2, h3] at hb
theorem impl_ring1 (l : List Int) (hl : l.length ≤ 40) (a i : Int) (ha : 0 ≤ a ∧ a ≤ 63) (hr : ∀ x ∈ l, 0 ≤ x ∧ x ≤ 63) (r : Bool × Bool) (h : Ev (fun k => impl_FitsRing.l0 k l l l.length (wrap64 (i + 1))) r) (d : Nat) : ∀ j : Nat, j + d = l.length →
    Ev (fun k => impl_FitsRing.l1 k l a l l.length i l l.length j) (if ((l.drop j).any fun b => bad l a b) = true then (false, true) else r) := by
  induction d with
  | zero =>
    intro j hj
    rw [List.drop_of_length_le (by omega)]
    exact Ev.step (fun k => by simp only [impl_FitsRing.l1]; rw [if_neg (by omega)]) h
  | succ d ih =>
    intro j hj
    rw [drop_i l j (by omega), List.any_cons]
    have ih := ih (j + 1) (by omega)
    have hb := hr _ (rd_mem l j (by omega))
    have en : (nw a (rd l j) == nw (rd l j) a) = (!nw a (rd l j) && !nw (rd l j) a) := by
      cases h1 : nw a (rd l j)
      · cases nw (rd l j) a <;> rfl
      · rw [nw_anti _ _ ha hb h1]
        rfl
    have h3 : Ev (fun k => impl_FitsRing.j3 k l a (rd l j) l l.length i l l.length j (!(a == rd l j) && (!nw a (rd l j) && !nw (rd l j) a))) (if (bad l a (rd l j) || (l.drop (j + 1)).any fun b => bad l a b) = true then (false, true) else r) := by
      cases hb : (!(a == rd l j) && (!nw a (rd l j) && !nw (rd l j) a))
      · cases h1 : nw a (rd l j)
        · have e : bad l a (rd l j) = false := by
            unfold bad
            rw [hb, h1]
            simp
          rw [e, Bool.false_or]
          refine Ev.step (fun k => ?_) ih
          simp only [impl_FitsRing.j3]
          rw [if_neg (by decide), impl_newer, h1, wi _ (by omega)]
          rfl
        · have h2 := impl_ring2 l hl a (rd l j) i j _ (by rw [wi _ (by omega)]; exact ih) l.length 0 (by omega)
          refine Ev.step (fun k => ?_) (f := fun k => impl_FitsRing.l2 k l a (rd l j) l l.length i l l.length j l l.length (0 : Nat)) ?_
          · simp only [impl_FitsRing.j3]
            rw [if_neg (by decide), impl_newer, h1]
            rfl
          have e : (if (bad l a (rd l j) || (l.drop (j + 1)).any fun b => bad l a b) = true then ((false, true) : Bool × Bool) else r) = (if ((l.drop 0).any fun c => nw (rd l j) c && nw c a) = true then (false, true) else (if ((l.drop (j + 1)).any fun b => bad l a b) = true then (false, true) else r)) := by
            unfold bad
            rw [hb, h1, Bool.false_or, List.drop_zero]
            simp only [Bool.true_and]
            cases (l.any fun c => nw (rd l j) c && nw c a) <;> simp
          rw [e]
          exact h2
      · refine Ev.step (f := fun _ => some (false, true)) (fun k => by simp only [impl_FitsRing.j3, if_true]) ?_
        unfold bad
        rw [hb]
        simp only [Bool.true_or, if_true]
        exact Ev.now _
    refine Ev.step (fun k => ?_) h3
    simp only [impl_FitsRing.l1]
    rw [if_pos (by omega), if_pos (by omega), if_pos (by omega), impl_newer, impl_newer]
    simp only [Option.bind_some]
    by_cases e : a = rd l j
    · rw [if_pos e, e]
      simp
    · rw [if_neg e, show (a == rd l j) = false from beq_eq_false_iff_ne.2 e, en]
      rfl
theorem impl_ring0 (l : List Int) (hl : l.length ≤ 40) (hr : ∀ x ∈ l, 0 ≤ x ∧ x ≤ 63) (d : Nat) : ∀ i : Nat, i + d = l.length →
    Ev (fun k => impl_FitsRing.l0 k l l l.length i) (!((l.drop i).any fun a => l.any fun b => bad l a b), true) := by
  induction d with
  | zero =>
    intro i hi
    rw [List.drop_of_length_le (by omega), List.any_nil]
    exact Ev.step (fun k => by simp only [impl_FitsRing.l0]; rw [if_neg (by omega)]; rfl) (Ev.now _)
  | succ d ih =>
    intro i hi
    rw [drop_i l i (by omega), List.any_cons]
    have h1 := impl_ring1 l hl (rd l i) i (hr _ (rd_mem l i (by omega))) hr _ (by rw [wi _ (by omega)]; exact ih (i + 1) (by omega)) l.length 0 (by omega)
    refine Ev.step (fun k => by simp only [impl_FitsRing.l0]; rw [if_pos (by omega), if_pos (by omega), if_pos (by omega)]) ?_
    rw [List.drop_zero] at h1
    cases hb : (l.any fun b => bad l (rd l i) b)
    · rw [hb] at h1
      simpa using h1
    · rw [hb] at h1
      simpa using h1
theorem impl_fits (l : List Int) (hn : l.length ≤ 4611686018427387904) : Ev (fun k => impl_FitsRing.f k l) (fits l) := by
  unfold fits
  by_cases h : l.length ≤ 40
  · cases ha : (l.all fun x => decide (0 ≤ x ∧ x ≤ 63))
    · rw [if_neg (by simp)]
      refine ev_ge (l.length + 2) (fun k hk => ?_)
      unfold impl_FitsRing.f
      rw [if_neg (by omega), impl_allIn_eq _ _ _ _ hn (by omega), ha]
      obtain ⟨k, rfl⟩ : ∃ m, k = m + 1 := ⟨k - 1, by omega⟩
      simp [impl_FitsRing.j0]
    · rw [if_pos ⟨h, rfl⟩]
      have hr : ∀ x ∈ l, 0 ≤ x ∧ x ≤ 63 := fun x hx => by simpa using List.all_eq_true.1 ha x hx
      obtain ⟨K, h0⟩ := impl_ring0 l h hr l.length 0 (by omega)
      rw [List.drop_zero] at h0
      refine ev_ge (K + l.length + 2) (fun k hk => ?_)
      unfold impl_FitsRing.f
      rw [if_neg (by omega), impl_allIn_eq _ _ _ _ hn (by omega), ha]
      obtain ⟨k, rfl⟩ : ∃ m, k = m + 1 := ⟨k - 1, by omega⟩
      simp only [Option.bind_some, Bool.not_true, impl_FitsRing.j0]
      rw [if_neg (by decide)]
      exact h0 k (by omega)
  · rw [if_neg (fun e => h e.1)]
    refine ev_ge 1 (fun k hk => ?_)
    unfold impl_FitsRing.f
    rw [if_pos (by omega)]
    obtain ⟨k, rfl⟩ : ∃ m, k = m + 1 := ⟨k - 1, by omega⟩
    simp [impl_FitsRing.j0]

-- toints
theorem toI_l (l : List Int) (hn : l.length ≤ 35184372088832) (d : Nat) : ∀ (k i : Nat) (m : List Int), i + d = l.length → m.length = l.length → m.take i = l.take i → d < k →
    laws_toIntS.l0 k l m i = some l := by
  induction d with
  | zero =>
    intro k i m h hm ht hk
    obtain ⟨k, rfl⟩ : ∃ m, k = m + 1 := ⟨k - 1, by omega⟩
    simp only [laws_toIntS.l0]
    rw [if_neg (by omega)]
    obtain rfl : i = l.length := by omega
    rw [List.take_length, ← hm, List.take_length] at ht
    rw [ht]
  | succ d ih =>
    intro k i m h hm ht hk
    obtain ⟨k, rfl⟩ : ∃ m, k = m + 1 := ⟨k - 1, by omega⟩
    simp only [laws_toIntS.l0]
    rw [if_pos (by omega), if_pos (by omega), if_pos (by omega), w64 (by omega) (by omega), show ((i : Int) + 1) = ((i + 1 : Nat) : Int) by omega]
    refine ih k (i + 1) _ (by omega) (by rw [List.length_set]; exact hm) ?_ (by omega)
    unfold rd
    rw [Int.toNat_natCast, List.take_set, List.take_succ_eq_append_getElem (by omega), List.take_succ_eq_append_getElem (by omega), ht,
      List.set_append_right _ _ (by rw [List.length_take]; omega)]
    simp [List.length_take, List.getD_eq_getElem?_getD, show i < l.length by omega, show min i l.length = i by omega]
theorem toI (l : List Int) (k : Nat) (hn : l.length ≤ 35184372088832) (hk : l.length < k) : laws_toIntS.f k l = some l := by
  unfold laws_toIntS.f
  rw [if_pos (by omega), if_pos (by omega)]
  exact toI_l l hn l.length k 0 _ (by omega) (by simp) (by simp) hk

-- upfrom
/-- n, n + 1, .., in so many places. -/
def upFrom (m : Int) (n : Nat) : List Int := (List.range n).map fun i : Nat => m + i
theorem upFrom_len (m : Int) (n : Nat) : (upFrom m n).length = n := by simp [upFrom]
theorem rd_nat (l : List Int) (i : Nat) : rd l i = l.getD i 0 := by simp [rd]
theorem rd_upFrom (m : Int) (n i : Nat) (h : i < n) : rd (upFrom m n) i = m + i := by
  simp [rd, upFrom, h]

-- eqi
theorem eqI_l (a b : List Int) (hl : a.length = b.length) (hn : a.length ≤ 4611686018427387904) (d : Nat) : ∀ (k i : Nat), i + d = a.length → d < k →
    laws_eqIntS.l0 k a b i = some (decide (a.drop i = b.drop i)) := by
  induction d with
  | zero =>
    intro k i h hk
    obtain ⟨k, rfl⟩ : ∃ m, k = m + 1 := ⟨k - 1, by omega⟩
    simp only [laws_eqIntS.l0]
    rw [if_neg (by omega), List.drop_of_length_le (by omega), List.drop_of_length_le (by omega)]
    simp
  | succ d ih =>
    intro k i h hk
    obtain ⟨k, rfl⟩ : ∃ m, k = m + 1 := ⟨k - 1, by omega⟩
    have h1 := ih k (i + 1) (by omega) (by omega)
    simp only [laws_eqIntS.l0]
    rw [if_pos (by omega), if_pos (by omega), if_pos (by omega), rd_nat, rd_nat, w64 (by omega) (by omega)]
    have ea : a.drop i = a.getD i 0 :: a.drop (i + 1) := by
      rw [List.getD_eq_getElem?_getD, List.getElem?_eq_getElem (by omega)]
      exact List.drop_eq_getElem_cons (by omega)
    have eb : b.drop i = b.getD i 0 :: b.drop (i + 1) := by
      rw [List.getD_eq_getElem?_getD, List.getElem?_eq_getElem (by omega)]
      exact List.drop_eq_getElem_cons (by omega)
    by_cases e : a.getD i 0 = b.getD i 0
    · rw [if_pos e]
      rw [show ((i : Int) + 1) = ((i + 1 : Nat) : Int) by omega, h1, ea, eb, e]
      simp
    · rw [if_neg e, ea, eb, decide_eq_false (fun h => e (List.cons.inj h).1)]
theorem eqI (a b : List Int) (k : Nat) (hn : a.length ≤ 4611686018427387904) (hk : a.length < k) : laws_eqIntS.f k a b = some (decide (a = b)) := by
  unfold laws_eqIntS.f
  by_cases hl : a.length = b.length
  · rw [if_pos (by omega)]
    simpa using eqI_l a b hl hn a.length k 0 (by omega) hk
  · rw [if_neg (by omega)]
    have : a ≠ b := fun e => hl (by rw [e])
    simp [this]

theorem FnExactFitsRing : laws_FnExactFitsRing.PureS := by
  intro l ⟨hn, _⟩
  obtain ⟨K1, h1⟩ := spec_fits l (by omega)
  obtain ⟨K2, h2⟩ := impl_fits l (by omega)
  replace h1 : ∀ k, K1 ≤ k → spec_FitsRing.f k l = some (fits l) := h1
  replace h2 : ∀ k, K2 ≤ k → impl_FitsRing.f k l = some (fits l) := h2
  refine ⟨K1 + K2 + l.length + 5, ?_⟩
  unfold laws_FnExactFitsRing.f
  by_cases h0 : (l.length : Int) > 1048576
  · rw [if_pos h0]
  · rw [if_neg h0, toI _ _ (by omega) (by omega)]
    simp only [Option.bind_some]
    rw [h1 _ (by omega), h2 _ (by omega)]
    simp only [Option.bind_some, bne_self_eq_false, Bool.false_eq_true, if_false]
    simp only [laws_FnExactFitsRing.j0, Bool.false_eq_true, if_false]
    rw [toI _ _ (by omega) (by omega)]
    simp only [Option.bind_some]
    rw [eqI _ _ _ (by omega) (by omega)]
    simp

end Go.Proofs.Ytaihdogejmdjnaa.Pure
