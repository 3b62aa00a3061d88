/- FnExactNewestOf answers true for each list of items. No condition beyond the row's own bounds. -/
import Derived.Test.YtaihdogejmdjnaaSFnExactNewestOf
namespace Go.Proofs.Ytaihdogejmdjnaa.Pure
open Go.RowKit Go.Proofs.Ytaihdogejmdjnaa.PFnExactNewestOf Go.Proofs.YtaihdogejmdjnaaW.PrintWords Go.Proofs.YtaihdogejmdjnaaW.PrintLast
set_option linter.unusedVariables false
set_option linter.unusedSimpArgs false

-- w64
theorem w64 {x : Int} (h0 : -9223372036854775808 ≤ x) (h1 : x ≤ 9223372036854775807) : wrap64 x = x := by
  unfold wrap64
  omega
theorem tm {x y : Int} (h0 : 0 ≤ x) : Int.tmod x y = x % y := Int.tmod_eq_emod_of_nonneg h0
theorem wf64 {x : Int} (h : (Lit.int .i64 x).wf = true) : -9223372036854775808 ≤ x ∧ x ≤ 9223372036854775807 := by
  simp [Lit.wf, IntKind.min, IntKind.max, IntKind.signed, IntKind.bits] at h
  omega

-- helps
theorem set_take {α : Type} (m L : List α) (i : Nat) (hi : i < L.length) (hm : m.length = L.length) (ht : m.take i = L.take i) (v : α) (hv : L[i]? = some v) : (m.set i v).take (i + 1) = L.take (i + 1) := by
  rw [List.take_set, List.take_succ_eq_append_getElem (by omega), List.take_succ_eq_append_getElem hi, ht, List.set_append_right _ _ (by rw [List.length_take]; omega)]
  rw [List.length_take, show i - min i L.length = 0 by omega]
  rw [List.getElem?_eq_getElem hi] at hv
  rw [Option.some.inj hv]
  rfl
/-- From some number of rounds on: one number for a pair. -/
theorem ev_at {α : Type} {g : Nat → Option α} {r : α} (h : Ev g r) : ∃ K, ∀ k, K ≤ k → g k = some r := h
theorem ev_some {α : Type} {g : Nat → Option α} {r : α} (h : ∀ k, g k = some r) : Ev g r := ⟨0, fun k _ => h k⟩
theorem ev_ge {α : Type} {g : Nat → Option α} {r : α} (K : Nat) (h : ∀ k, K ≤ k → g k = some r) : Ev g r := ⟨K, h⟩

-- rdt(33)
theorem rd_T33_at (l : List S33) (i : Nat) (h : i < l.length) : rd_T33 l i = l[i] := by
  simp [rd_T33, List.getD_eq_getElem?_getD, List.getElem?_eq_getElem h]

-- gooditem
theorem good_one (a b c : Int) (t : ByteArray) : ∃ r, spec_GoodItem.f a b c t = some r ∧ impl_GoodItem.f a b c t = some r := by
  have e : impl_GoodItem.f a b c t = spec_GoodItem.f a b c t := by
    unfold impl_GoodItem.f spec_GoodItem.f impl_isSeq.f spec_l5Seq.f impl_in.f spec_l1In.f
    rfl
  rw [e]
  unfold spec_GoodItem.f spec_l5Seq.f spec_l1In.f
  by_cases h0 : 1 ≤ a
  · by_cases h1 : a ≤ 1000
    · by_cases h2 : 0 ≤ b
      · by_cases h3 : b ≤ 63
        · by_cases h4 : 0 ≤ c
          · by_cases h5 : c ≤ 20
            · by_cases h6 : (t.size : Int) ≤ 20
              · by_cases h7 : 0 < c
                · exact ⟨true, by simp [h0, h1, h2, h3, h4, h5, h6, h7], by simp [h0, h1, h2, h3, h4, h5, h6, h7]⟩
                · exact ⟨_, by simp [h0, h1, h2, h3, h4, h5, h6, h7]; rfl, by simp [h0, h1, h2, h3, h4, h5, h6, h7]⟩
              · exact ⟨false, by simp [h0, h1, h2, h3, h4, h5, h6], by simp [h0, h1, h2, h3, h4, h5, h6]⟩
            · exact ⟨false, by simp [h0, h1, h2, h3, h4, h5], by simp [h0, h1, h2, h3, h4, h5]⟩
          · exact ⟨false, by simp [h0, h1, h2, h3, h4], by simp [h0, h1, h2, h3, h4]⟩
        · exact ⟨false, by simp [h0, h1, h2, h3], by simp [h0, h1, h2, h3]⟩
      · exact ⟨false, by simp [h0, h1, h2], by simp [h0, h1, h2]⟩
    · exact ⟨false, by simp [h0, h1], by simp [h0, h1]⟩
  · exact ⟨false, by simp [h0], by simp [h0]⟩

-- newer
/-- Is a newer than b, by the code's own sum. -/
def nw (a b : Int) : Bool := decide (1 ≤ Int.tmod (wrap64 ((wrap64 (a - b)) + 64)) 64 ∧ Int.tmod (wrap64 ((wrap64 (a - b)) + 64)) 64 ≤ 31)
theorem spec_newer (a b : Int) : spec_l5Newer.f a b = some (nw a b) := by
  unfold spec_l5Newer.f spec_l5Steps.f spec_l1In.f nw
  simp only [Option.bind_some, ge_iff_le]
  by_cases h : 1 ≤ Int.tmod (wrap64 ((wrap64 (a - b)) + 64)) 64
  · simp [h]
  · simp [h]
theorem impl_newer (a b : Int) : impl_isNewer.f a b = some (nw a b) := by
  unfold impl_isNewer.f impl_stepsTo.f impl_in.f nw
  simp only [Option.bind_some, ge_iff_le]
  by_cases h : 1 ≤ Int.tmod (wrap64 ((wrap64 (a - b)) + 64)) 64
  · simp [h]
  · simp [h]
theorem nw_self (a : Int) : nw a a = false := by
  unfold nw
  rw [Int.sub_self, w64 (x := 0) (by omega) (by omega), w64 (by omega) (by omega)]
  decide
theorem nw_eq (a b : Int) (ha : 0 ≤ a ∧ a ≤ 63) (hb : 0 ≤ b ∧ b ≤ 63) : nw a b = decide (1 ≤ (a - b + 64) % 64 ∧ (a - b + 64) % 64 ≤ 31) := by
  unfold nw
  rw [w64 (x := a - b) (by omega) (by omega), w64 (by omega) (by omega), tm (by omega)]
theorem nw_anti (a b : Int) (ha : 0 ≤ a ∧ a ≤ 63) (hb : 0 ≤ b ∧ b ≤ 63) (h : nw a b = true) : nw b a = false := by
  rw [nw_eq _ _ ha hb] at h
  rw [nw_eq _ _ hb ha]
  simp at h ⊢
  omega

-- better
/-- Which of two items is better. -/
def bt2 (s1 a1 : Int) (t1 : ByteArray) (s2 a2 : Int) (t2 : ByteArray) : Int :=
  if nw s1 s2 = true then 1 else if nw s2 s1 = true then 2 else if s1 = s2 then (if a1 = 0 ∧ ¬ a2 = 0 then 1 else if a2 = 0 ∧ ¬ a1 = 0 then 2 else if t1.toList = t2.toList then 0 else 3) else 3
theorem spec_better (k : Nat) (hk : 3 ≤ k) (f1 s1 a1 : Int) (t1 : ByteArray) (f2 s2 a2 : Int) (t2 : ByteArray) : spec_l5Better.f k f1 s1 a1 t1 f2 s2 a2 t2 = some (bt2 s1 a1 t1 s2 a2 t2) := by
  obtain ⟨k, rfl⟩ : ∃ m, k = m + 3 := ⟨k - 3, by omega⟩
  unfold spec_l5Better.f bt2
  rw [spec_newer, spec_newer]
  simp only [Option.bind_some]
  by_cases h1 : nw s1 s2 = true
  · simp [h1]
  · by_cases h2 : nw s2 s1 = true
    · simp [h1, h2]
    · by_cases h3 : s1 = s2
      · by_cases h4 : a1 = 0
        · by_cases h5 : a2 = 0
          · by_cases h6 : t1.toList = t2.toList
            · simp [h1, h2, h3, h4, h5, h6, spec_l5Better.j0, spec_l5Better.j1, nw_self]
            · simp [h1, h2, h3, h4, h5, h6, spec_l5Better.j0, spec_l5Better.j1, nw_self]
          · simp [h1, h2, h3, h4, h5, spec_l5Better.j0, spec_l5Better.j1, nw_self]
        · by_cases h5 : a2 = 0
          · simp [h1, h2, h3, h4, h5, spec_l5Better.j0, spec_l5Better.j1, nw_self]
          · by_cases h6 : t1.toList = t2.toList
            · simp [h1, h2, h3, h4, h5, h6, spec_l5Better.j0, spec_l5Better.j1, nw_self]
            · simp [h1, h2, h3, h4, h5, h6, spec_l5Better.j0, spec_l5Better.j1, nw_self]
      · simp [h1, h2, h3]
theorem impl_better_f (k : Nat) (hk : 3 ≤ k) (f1 s1 a1 : Int) (t1 : ByteArray) (f2 s2 a2 : Int) (t2 : ByteArray) : impl_better.f k f1 s1 a1 t1 f2 s2 a2 t2 = some (bt2 s1 a1 t1 s2 a2 t2) := by
  obtain ⟨k, rfl⟩ : ∃ m, k = m + 3 := ⟨k - 3, by omega⟩
  unfold impl_better.f bt2
  by_cases h3 : s1 = s2
  · subst h3
    have h1 := nw_self s1
    by_cases h4 : a1 = 0
    · by_cases h5 : a2 = 0
      · by_cases h6 : t1.toList = t2.toList
        · simp [impl_better.j0, impl_newer, h1, h4, h5, h6]
        · simp [impl_better.j0, impl_better.j1, impl_newer, h1, h4, h5, h6]
      · by_cases h6 : t1.toList = t2.toList
        · simp [impl_better.j0, impl_better.j1, impl_newer, h1, h4, h5, h6]
        · simp [impl_better.j0, impl_better.j1, impl_newer, h1, h4, h5, h6]
    · have e4 : (a1 == 0) = false := beq_eq_false_iff_ne.2 h4
      by_cases h5 : a2 = 0
      · by_cases h6 : t1.toList = t2.toList
        · simp [impl_better.j0, impl_better.j1, impl_newer, h1, h4, h5, h6, e4]
        · simp [impl_better.j0, impl_better.j1, impl_newer, h1, h4, h5, h6, e4]
      · have e5 : (a2 == 0) = false := beq_eq_false_iff_ne.2 h5
        by_cases h6 : t1.toList = t2.toList
        · simp [impl_better.j0, impl_better.j1, impl_newer, h1, h4, h5, h6, e4, e5]
        · simp [impl_better.j0, impl_better.j1, impl_newer, h1, h4, h5, h6, e4, e5]
  · by_cases h1 : nw s1 s2 = true
    · simp [impl_better.j0, impl_better.j1, impl_newer, h1, h3]
    · by_cases h2 : nw s2 s1 = true
      · simp [impl_better.j0, impl_better.j1, impl_newer, h1, h2, h3]
      · simp [impl_better.j0, impl_better.j1, impl_newer, h1, h2, h3]

-- goodage
theorem good_age (f s a : Int) (t : ByteArray) (h : spec_GoodItem.f f s a t = some true) : (0 ≤ a ∧ a ≤ 20) ∧ (0 ≤ s ∧ s ≤ 63) := by
  unfold spec_GoodItem.f spec_l5Seq.f spec_l1In.f at h
  simp only [ge_iff_le] at h
  by_cases h0 : 1 ≤ f
  · by_cases h1 : f ≤ 1000
    · by_cases h2 : 0 ≤ s
      · by_cases h3 : s ≤ 63
        · by_cases h4 : 0 ≤ a
          · by_cases h5 : a ≤ 20
            · exact ⟨⟨h4, h5⟩, h2, h3⟩
            · simp [h0, h1, h2, h3, h4, h5] at h
          · simp [h0, h1, h2, h3, h4] at h
        · simp [h0, h1, h2, h3] at h
      · simp [h0, h1, h2] at h
    · simp [h0, h1] at h
  · simp [h0] at h

-- newest(33)
/-- Which items are as they should be. -/
def okI (x : S33) : Bool := (spec_GoodItem.f x.f0 x.f1 x.f2 x.f3).getD false
theorem okI_spec (x : S33) : spec_GoodItem.f x.f0 x.f1 x.f2 x.f3 = some (okI x) := by
  obtain ⟨r, e1, _⟩ := good_one x.f0 x.f1 x.f2 x.f3
  rw [okI, e1]
  rfl
theorem okI_impl (x : S33) : impl_GoodItem.f x.f0 x.f1 x.f2 x.f3 = some (okI x) := by
  obtain ⟨r, e1, e2⟩ := good_one x.f0 x.f1 x.f2 x.f3
  rw [okI, e1, e2]
  rfl
def btr (y x : S33) : Int := bt2 y.f1 y.f2 y.f3 x.f1 x.f2 x.f3
/-- The first item that none beats. -/
def firstI (l : List S33) : List S33 → Int × Int × Int × ByteArray × Bool
  | [] => (0, 0, 0, (⟨#[]⟩ : ByteArray), false)
  | x :: r => if (l.any fun y => btr y x == 1) = true then firstI l r else (x.f0, x.f1, x.f2, x.f3, true)
theorem drop_S (l : List S33) (i : Nat) (h : i < l.length) : l.drop i = rd_T33 l i :: l.drop (i + 1) := by
  rw [rd_T33_at l i h]
  exact List.drop_eq_getElem_cons h
theorem wi (i : Nat) (h : i ≤ 4611686018427387904) : wrap64 ((i : Int) + 1) = ((i + 1 : Nat) : Int) := by
  rw [w64 (by omega) (by omega)]
  omega

-- newest2(33;spec;spec_better)
theorem spec_n2 (l : List S33) (hl : l.length ≤ 20) (i : Nat) (x : S33) (r : Int × Int × Int × ByteArray × Bool) (h : Ev (fun k => spec_NewestOf.l1 k l l l.length (wrap64 (i + 1))) r) (d : Nat) : ∀ (j : Nat) (b : Bool), j + d = l.length →
    Ev (fun k => spec_NewestOf.l2 k l b l l.length i l l.length j x.f0 x.f1 x.f2 x.f3) (if (b || (l.drop j).any fun y => btr y x == 1) = true then r else (x.f0, x.f1, x.f2, x.f3, true)) := by
  induction d with
  | zero =>
    intro j b hj
    rw [List.drop_of_length_le (by omega), List.any_nil]
    cases b
    · exact Ev.step (fun k => by simp only [spec_NewestOf.l2]; rw [if_neg (by omega), if_neg (by decide)]; rfl) (Ev.now _)
    · exact Ev.step (fun k => by simp only [spec_NewestOf.l2]; rw [if_neg (by omega)]; simp only [if_true]) h
  | succ d ih =>
    intro j b hj
    rw [drop_S l j (by omega), List.any_cons]
    cases b
    · have ih := ih (j + 1) (btr (rd_T33 l j) x == 1) (by omega)
      rw [Bool.false_or]
      obtain ⟨K, h0⟩ := ih
      refine ⟨K + 5, fun k hk => ?_⟩
      obtain ⟨k, rfl⟩ : ∃ m, k = m + 1 := ⟨k - 1, by omega⟩
      simp only [spec_NewestOf.l2]
      rw [if_pos (by omega), if_pos (by omega), if_pos (by omega), if_neg (by decide), spec_better k (by omega), wi _ (by omega)]
      exact h0 k (by omega)
    · have ih := ih (j + 1) true (by omega)
      rw [Bool.true_or] at ih ⊢
      refine Ev.step (fun k => ?_) ih
      simp only [spec_NewestOf.l2]
      rw [if_pos (by omega), if_pos (by omega), if_pos (by omega), wi _ (by omega)]
      simp only [if_true]
theorem spec_n1 (l : List S33) (hl : l.length ≤ 20) (d : Nat) : ∀ i : Nat, i + d = l.length → Ev (fun k => spec_NewestOf.l1 k l l l.length i) (firstI l (l.drop i)) := by
  induction d with
  | zero =>
    intro i hi
    rw [List.drop_of_length_le (by omega)]
    exact Ev.step (fun k => by simp only [spec_NewestOf.l1]; rw [if_neg (by omega)]; rfl) (Ev.now _)
  | succ d ih =>
    intro i hi
    rw [drop_S l i (by omega)]
    have h2 := spec_n2 l hl i (rd_T33 l i) _ (by rw [wi _ (by omega)]; exact ih (i + 1) (by omega)) l.length 0 false (by omega)
    refine Ev.step (fun k => by simp only [spec_NewestOf.l1]; rw [if_pos (by omega), if_pos (by omega), if_pos (by omega)]) ?_
    rw [Bool.false_or, List.drop_zero] at h2
    exact h2

-- newest2(33;impl;impl_better_f)
theorem impl_n2 (l : List S33) (hl : l.length ≤ 20) (i : Nat) (x : S33) (r : Int × Int × Int × ByteArray × Bool) (h : Ev (fun k => impl_NewestOf.l1 k l l l.length (wrap64 (i + 1))) r) (d : Nat) : ∀ (j : Nat) (b : Bool), j + d = l.length →
    Ev (fun k => impl_NewestOf.l2 k l b l l.length i l l.length j x.f0 x.f1 x.f2 x.f3) (if (b || (l.drop j).any fun y => btr y x == 1) = true then r else (x.f0, x.f1, x.f2, x.f3, true)) := by
  induction d with
  | zero =>
    intro j b hj
    rw [List.drop_of_length_le (by omega), List.any_nil]
    cases b
    · exact Ev.step (fun k => by simp only [impl_NewestOf.l2]; rw [if_neg (by omega), if_neg (by decide)]; rfl) (Ev.now _)
    · exact Ev.step (fun k => by simp only [impl_NewestOf.l2]; rw [if_neg (by omega)]; simp only [if_true]) h
  | succ d ih =>
    intro j b hj
    rw [drop_S l j (by omega), List.any_cons]
    cases b
    · have ih := ih (j + 1) (btr (rd_T33 l j) x == 1) (by omega)
      rw [Bool.false_or]
      obtain ⟨K, h0⟩ := ih
      refine ⟨K + 5, fun k hk => ?_⟩
      obtain ⟨k, rfl⟩ : ∃ m, k = m + 1 := ⟨k - 1, by omega⟩
      simp only [impl_NewestOf.l2]
      rw [if_pos (by omega), if_pos (by omega), if_pos (by omega), if_neg (by decide), impl_better_f k (by omega), wi _ (by omega)]
      exact h0 k (by omega)
    · have ih := ih (j + 1) true (by omega)
      rw [Bool.true_or] at ih ⊢
      refine Ev.step (fun k => ?_) ih
      simp only [impl_NewestOf.l2]
      rw [if_pos (by omega), if_pos (by omega), if_pos (by omega), wi _ (by omega)]
      simp only [if_true]
theorem impl_n1 (l : List S33) (hl : l.length ≤ 20) (d : Nat) : ∀ i : Nat, i + d = l.length → Ev (fun k => impl_NewestOf.l1 k l l l.length i) (firstI l (l.drop i)) := by
  induction d with
  | zero =>
    intro i hi
    rw [List.drop_of_length_le (by omega)]
    exact Ev.step (fun k => by simp only [impl_NewestOf.l1]; rw [if_neg (by omega)]; rfl) (Ev.now _)
  | succ d ih =>
    intro i hi
    rw [drop_S l i (by omega)]
    have h2 := impl_n2 l hl i (rd_T33 l i) _ (by rw [wi _ (by omega)]; exact ih (i + 1) (by omega)) l.length 0 false (by omega)
    refine Ev.step (fun k => by simp only [impl_NewestOf.l1]; rw [if_pos (by omega), if_pos (by omega), if_pos (by omega)]) ?_
    rw [Bool.false_or, List.drop_zero] at h2
    exact h2

-- newest3(33)
/-- Are all items as they should be, and of one From? -/
def allI (l : List S33) (f : Int) : Bool := l.all fun x => okI x && x.f0 == f
/-- What NewestOf tells. -/
def newestI (l : List S33) : Int × Int × Int × ByteArray × Bool := if allI l (rd_T33 l 0).f0 = true ∧ l.length ≤ 20 then firstI l l else (0, 0, 0, (⟨#[]⟩ : ByteArray), false)
theorem spec_n0 (l : List S33) (hn : l.length ≤ 4611686018427387904) (d : Nat) : ∀ i : Nat, i + d = l.length → Ev (fun k => spec_NewestOf.l0 k l l l.length i) (if allI (l.drop i) (rd_T33 l 0).f0 = true ∧ l.length ≤ 20 then firstI l l else (0, 0, 0, (⟨#[]⟩ : ByteArray), false)) := by
  induction d with
  | zero =>
    intro i hi
    rw [List.drop_of_length_le (by omega)]
    by_cases h : l.length ≤ 20
    · rw [if_pos ⟨rfl, h⟩]
      refine Ev.step (fun k => by simp only [spec_NewestOf.l0]; rw [if_neg (by omega), if_neg (by omega)]) ?_
      have := spec_n1 l h l.length 0 (by omega)
      rw [List.drop_zero] at this
      exact this
    · rw [if_neg (fun e => h e.2)]
      exact Ev.step (fun k => by simp only [spec_NewestOf.l0]; rw [if_neg (by omega), if_pos (by omega)]) (Ev.now _)
  | succ d ih =>
    intro i hi
    rw [drop_S l i (by omega)]
    have ih := ih (i + 1) (by omega)
    unfold allI at ih ⊢
    rw [List.all_cons]
    cases h1 : okI (rd_T33 l i)
    · rw [if_neg (by simp)]
      refine Ev.step (f := fun _ => some (0, 0, 0, (⟨#[]⟩ : ByteArray), false)) (fun k => ?_) (Ev.now _)
      simp only [spec_NewestOf.l0]
      rw [if_pos (by omega), if_pos (by omega), if_pos (by omega), okI_spec, h1]
      simp
    · by_cases h2 : (rd_T33 l i).f0 = (rd_T33 l 0).f0
      · rw [show ((rd_T33 l i).f0 == (rd_T33 l 0).f0) = true from beq_iff_eq.2 h2]
        simp only [Bool.true_and]
        refine Ev.step (fun k => ?_) ih
        simp only [spec_NewestOf.l0]
        rw [if_pos (by omega), if_pos (by omega), if_pos (by omega), okI_spec, h1, wi _ (by omega)]
        simp only [Option.bind_some, if_true]
        rw [if_pos (by omega), if_pos h2]
      · rw [if_neg (by simp [h2])]
        refine Ev.step (f := fun _ => some (0, 0, 0, (⟨#[]⟩ : ByteArray), false)) (fun k => ?_) (Ev.now _)
        simp only [spec_NewestOf.l0]
        rw [if_pos (by omega), if_pos (by omega), if_pos (by omega), okI_spec, h1]
        simp only [Option.bind_some, if_true]
        rw [if_pos (by omega), if_neg h2]
theorem impl_n0 (l : List S33) (hn : l.length ≤ 20) (d : Nat) : ∀ i : Nat, i + d = l.length → Ev (fun k => impl_NewestOf.l0 k l l l.length i) (if allI (l.drop i) (rd_T33 l 0).f0 = true then firstI l l else (0, 0, 0, (⟨#[]⟩ : ByteArray), false)) := by
  induction d with
  | zero =>
    intro i hi
    rw [List.drop_of_length_le (by omega)]
    rw [if_pos (show allI [] (rd_T33 l 0).f0 = true from rfl)]
    refine Ev.step (fun k => by simp only [impl_NewestOf.l0]; rw [if_neg (by omega)]) ?_
    have := impl_n1 l hn l.length 0 (by omega)
    rw [List.drop_zero] at this
    exact this
  | succ d ih =>
    intro i hi
    rw [drop_S l i (by omega)]
    have ih := ih (i + 1) (by omega)
    unfold allI at ih ⊢
    rw [List.all_cons]
    cases h1 : okI (rd_T33 l i)
    · rw [if_neg (by simp)]
      refine Ev.step (f := fun _ => some (0, 0, 0, (⟨#[]⟩ : ByteArray), false)) (fun k => ?_) (Ev.now _)
      simp only [impl_NewestOf.l0]
      rw [if_pos (by omega), if_pos (by omega), if_pos (by omega), okI_impl, h1]
      simp
    · by_cases h2 : (rd_T33 l i).f0 = (rd_T33 l 0).f0
      · rw [show ((rd_T33 l i).f0 == (rd_T33 l 0).f0) = true from beq_iff_eq.2 h2]
        simp only [Bool.true_and]
        refine Ev.step (fun k => ?_) ih
        simp only [impl_NewestOf.l0]
        rw [if_pos (by omega), if_pos (by omega), if_pos (by omega), okI_impl, h1, wi _ (by omega)]
        simp only [Option.bind_some, if_true]
        rw [if_pos (by omega), if_pos h2]
      · rw [if_neg (by simp [h2])]
        refine Ev.step (f := fun _ => some (0, 0, 0, (⟨#[]⟩ : ByteArray), false)) (fun k => ?_) (Ev.now _)
        simp only [impl_NewestOf.l0]
        rw [if_pos (by omega), if_pos (by omega), if_pos (by omega), okI_impl, h1]
        simp only [Option.bind_some, if_true]
        rw [if_pos (by omega), if_neg h2]
theorem spec_newest (l : List S33) (hn : l.length ≤ 4611686018427387904) : Ev (fun k => spec_NewestOf.f k l) (newestI l) := by
  have := spec_n0 l hn l.length 0 (by omega)
  rw [List.drop_zero] at this
  exact this
theorem impl_newest (l : List S33) (hn : l.length ≤ 4611686018427387904) : Ev (fun k => impl_NewestOf.f k l) (newestI l) := by
  by_cases h1 : 1 ≤ l.length
  · by_cases h2 : l.length ≤ 20
    · have := impl_n0 l h2 l.length 0 (by omega)
      rw [List.drop_zero] at this
      refine Ev.congr (fun k => ?_) (f := fun k => impl_NewestOf.l0 k l l l.length 0) ?_
      · unfold impl_NewestOf.f impl_in.f
        rw [if_pos (show (l.length : Int) ≥ 1 by omega), decide_eq_true (show (l.length : Int) ≤ 20 by omega)]
        rfl
      unfold newestI
      simp only [h2, and_true]
      exact this
    · unfold newestI
      rw [if_neg (fun e => h2 e.2)]
      refine Ev.congr (fun k => ?_) (Ev.now _)
      unfold impl_NewestOf.f impl_in.f
      rw [if_pos (show (l.length : Int) ≥ 1 by omega), decide_eq_false (show ¬ (l.length : Int) ≤ 20 by omega)]
      rfl
  · obtain rfl : l = [] := List.length_eq_zero_iff.1 (by omega)
    exact Ev.congr (fun k => rfl) (Ev.now _)

-- rdt(30)
theorem rd_T30_at (l : List S30) (i : Nat) (h : i < l.length) : rd_T30 l i = l[i] := by
  simp [rd_T30, List.getD_eq_getElem?_getD, List.getElem?_eq_getElem h]

-- tos(30;33;laws_toItemS;laws_toItem;⟨x.f0, x.f1, x.f2, x.f3⟩;7036874417766)
def cv30 (x : S30) : S33 := ⟨x.f0, x.f1, x.f2, x.f3⟩
theorem laws_toItemS_l (l : List S30) (hn : l.length ≤ 4611686018427387904) (d : Nat) : ∀ (k i : Nat) (m : List S33), i + d = l.length → m.length = l.length → m.take i = (l.map cv30).take i → d < k →
    laws_toItemS.l0 k l m i = some (l.map cv30) := by
  induction d with
  | zero =>
    intro k i m h hm ht hk
    obtain ⟨k, rfl⟩ : ∃ m, k = m + 1 := ⟨k - 1, by omega⟩
    simp only [laws_toItemS.l0]
    rw [if_neg (by omega)]
    rw [List.take_of_length_le (by omega), List.take_of_length_le (by rw [List.length_map]; omega)] at ht
    rw [ht]
  | succ d ih =>
    intro k i m h hm ht hk
    obtain ⟨k, rfl⟩ : ∃ m, k = m + 1 := ⟨k - 1, by omega⟩
    simp only [laws_toItemS.l0, laws_toItem.f, Option.bind_some]
    rw [if_pos (by omega), if_pos (by omega), if_pos (by omega), w64 (by omega) (by omega), show ((i : Int) + 1) = ((i + 1 : Nat) : Int) by omega]
    refine ih k (i + 1) _ (by omega) (by rw [List.length_set]; exact hm) ?_ (by omega)
    rw [Int.toNat_natCast]
    exact set_take _ _ i (by rw [List.length_map]; omega) (by rw [List.length_map]; exact hm) ht _ (by rw [List.getElem?_map, List.getElem?_eq_getElem (by omega), rd_T30_at l i (by omega)]; rfl)
theorem laws_toItemS_eq (l : List S30) (k : Nat) (hn : l.length ≤ 7036874417766) (hk : l.length < k) : laws_toItemS.f k l = some (l.map cv30) := by
  unfold laws_toItemS.f
  rw [if_pos (by omega), if_pos (by omega)]
  exact laws_toItemS_l l (by omega) l.length k 0 _ (by omega) (by simp) (by simp) hk

-- eqs(33;laws_eqItemS;laws_eqItem)
theorem laws_eqItemS_l (l : List S33) (hn : l.length ≤ 4611686018427387904) (d : Nat) : ∀ (k i : Nat), i + d = l.length → d < k → laws_eqItemS.l0 k l l i = some true := by
  induction d with
  | zero =>
    intro k i h hk
    obtain ⟨k, rfl⟩ : ∃ m, k = m + 1 := ⟨k - 1, by omega⟩
    simp only [laws_eqItemS.l0]
    rw [if_neg (by omega)]
  | succ d ih =>
    intro k i h hk
    obtain ⟨k, rfl⟩ : ∃ m, k = m + 1 := ⟨k - 1, by omega⟩
    have h1 := ih k (i + 1) (by omega) (by omega)
    simp only [laws_eqItemS.l0]
    rw [if_pos (by omega), if_pos (by omega), if_pos (by omega), w64 (by omega) (by omega), show ((i : Int) + 1) = ((i + 1 : Nat) : Int) by omega, h1]
    unfold laws_eqItem.f
    simp
theorem laws_eqItemS_refl (l : List S33) (k : Nat) (hn : l.length ≤ 4611686018427387904) (hk : l.length < k) : laws_eqItemS.f k l l = some true := by
  unfold laws_eqItemS.f
  rw [if_pos rfl]
  exact laws_eqItemS_l l hn l.length k 0 (by omega) hk

-- szitems(30)
theorem szItems_l (l : List S30) (hn : l.length ≤ 4611686018427387904) (d : Nat) : ∀ (k i : Nat) (m : Int), i + d = l.length → d < k → ∃ r, laws_szItemS.l0 k l m i = some r := by
  induction d with
  | zero =>
    intro k i m h hk
    obtain ⟨k, rfl⟩ : ∃ m, k = m + 1 := ⟨k - 1, by omega⟩
    simp only [laws_szItemS.l0]
    rw [if_neg (by omega)]
    exact ⟨_, rfl⟩
  | succ d ih =>
    intro k i m h hk
    obtain ⟨k, rfl⟩ : ∃ m, k = m + 1 := ⟨k - 1, by omega⟩
    simp only [laws_szItemS.l0, laws_szItem.f]
    rw [if_pos (by omega), if_pos (by omega), w64 (x := (i : Int) + 1) (by omega) (by omega), show ((i : Int) + 1) = ((i + 1 : Nat) : Int) by omega]
    generalize wrap64 (m - ((rd_T30 l i).f3.size : Int)) = z
    by_cases hz : z < 0
    · rw [if_pos hz]
      exact ⟨-1, by simp⟩
    · rw [if_neg hz]
      obtain ⟨r, hr⟩ := ih k (i + 1) z (by omega) (by omega)
      exact ⟨r, by simp only [Option.bind_some]; rw [if_neg hz, hr]⟩
theorem szItems (l : List S30) (k : Nat) (m : Int) (hn : l.length ≤ 4611686018427387904) (hk : l.length < k) : ∃ r, laws_szItemS.f k l m = some r := by
  unfold laws_szItemS.f
  split
  · exact ⟨_, rfl⟩
  · exact szItems_l l hn l.length k 0 _ (by omega) hk

theorem FnExactNewestOf : laws_FnExactNewestOf.PureS := by
  intro l ⟨hn, _⟩
  have hl : l.length ≤ 7036874417766 := by omega
  obtain ⟨K1, h1⟩ := spec_newest (l.map cv30) (by rw [List.length_map]; omega)
  obtain ⟨K2, h2⟩ := impl_newest (l.map cv30) (by rw [List.length_map]; omega)
  replace h1 : ∀ k, K1 ≤ k → spec_NewestOf.f k (l.map cv30) = some (newestI (l.map cv30)) := h1
  replace h2 : ∀ k, K2 ≤ k → impl_NewestOf.f k (l.map cv30) = some (newestI (l.map cv30)) := h2
  refine ⟨K1 + K2 + l.length + 5, ?_⟩
  obtain ⟨z, hz⟩ := szItems l (K1 + K2 + l.length + 5) 1048576 (by omega) (by omega)
  unfold laws_FnExactNewestOf.f
  rw [hz]
  simp only [Option.bind_some]
  by_cases h0 : z < 0
  · rw [if_pos h0]
  · rw [if_neg h0, laws_toItemS_eq l _ hl (by omega)]
    simp only [Option.bind_some]
    rw [h1 _ (by omega), h2 _ (by omega)]
    simp only [Option.bind_some]
    have e : ∀ a b c d, laws_eqItem.f a b c d a b c d = some true := fun a b c d => by unfold laws_eqItem.f; simp
    rw [e]
    simp only [Option.bind_some, if_true, bne_self_eq_false]
    simp only [laws_FnExactNewestOf.j0, Bool.false_eq_true, if_false]
    rw [laws_toItemS_eq l _ hl (by omega)]
    simp only [Option.bind_some]
    rw [laws_eqItemS_refl _ _ (by rw [List.length_map]; omega) (by rw [List.length_map]; omega)]
    simp

end Go.Proofs.Ytaihdogejmdjnaa.Pure
