/- FnItems answers true for all drawn items. No condition beyond the row's own bounds. -/
import Derived.Test.YtaihdogejmdjnaaSFnItems
namespace Go.Proofs.Ytaihdogejmdjnaa.Pure
open Go.RowKit Go.Proofs.Ytaihdogejmdjnaa.PFnItems Go.Proofs.YtaihdogejmdjnaaW.PrintWords Go.Proofs.YtaihdogejmdjnaaW.PrintLast
set_option linter.unusedVariables false
set_option linter.unusedSimpArgs false

-- w64
theorem w64 {x : Int} (h0 : -9223372036854775808 ≤ x) (h1 : x ≤ 9223372036854775807) : wrap64 x = x := by
  unfold wrap64
  omega
theorem tm {x y : Int} (h0 : 0 ≤ x) : Int.tmod x y = x % y := Int.tmod_eq_emod_of_nonneg h0
theorem wf64 {x : Int} (h : (Lit.int .i64 x).wf = true) : -9223372036854775808 ≤ x ∧ x ≤ 9223372036854775807 := by
  simp [Lit.wf, IntKind.min, IntKind.max, IntKind.signed, IntKind.bits] at h
  omega

-- dropi
theorem drop_i (l : List Int) (i : Nat) (h : i < l.length) : l.drop i = rd l i :: l.drop (i + 1) := by
  unfold rd
  rw [Int.toNat_natCast, List.getD_eq_getElem?_getD, List.getElem?_eq_getElem h]
  exact List.drop_eq_getElem_cons h
theorem rd_mem (l : List Int) (i : Nat) (h : i < l.length) : rd l i ∈ l := by
  unfold rd
  rw [Int.toNat_natCast, List.getD_eq_getElem?_getD, List.getElem?_eq_getElem h]
  exact List.getElem_mem h

-- draws
theorem wraps_u64 (n : Int) (h₀ : 0 ≤ n) (h₁ : n < 2 ^ 24) : IntKind.u64.wrap n = n := by
  have h : n < 16777216 := h₁
  rw [IntKind.wrap_u64]
  omega
theorem letterOf (y : Int) : 0 ≤ wrap64 (Go.bits .and .u64 (IntKind.u64.wrap y / 1099511627776) 255) ∧ wrap64 (Go.bits .and .u64 (IntKind.u64.wrap y / 1099511627776) 255) ≤ 255 := by
  have hw := IntKind.wrap_u64 y
  have e : Go.bits .and .u64 (IntKind.u64.wrap y / 1099511627776) 255 = (IntKind.u64.wrap y / 1099511627776) % 256 :=
    bits_mask .u64 24 (by decide) wraps_u64 8 (by decide) _ (by omega) (by show _ < (16777216 : Int); omega)
  rw [e, w64 (by omega) (by omega)]
  omega
/-- The bytes that a drawer reads. -/
def Drawn (l : List Int) : Prop := (∀ x ∈ l, 0 ≤ x ∧ x ≤ 255) ∧ l.length ≤ 1125899906842624
theorem draw_next (l : List Int) (hl : Drawn l) (p st : Int) (h0 : 0 ≤ p) (h1 : p ≤ 1125899906842624) : ∃ v q, spec_l1Cur_next.f l p st = some (v, p + 1, q) ∧ 0 ≤ v ∧ v ≤ 255 := by
  obtain ⟨hl, hn⟩ := hl
  unfold spec_l1Cur_next.f
  rw [w64 (x := p + 1) (by omega) (by omega)]
  by_cases h : p < (l.length : Int)
  · have hm := hl _ (rd_mem l p.toNat (by omega))
    rw [Int.toNat_of_nonneg h0] at hm
    rw [if_pos h, if_pos h0, if_pos (by omega), w64 (x := rd l p) (by omega) (by omega)]
    exact ⟨_, _, rfl, hm⟩
  · rw [if_neg h, if_neg (by omega)]
    exact ⟨_, _, rfl, letterOf _⟩
theorem draw_pick (l : List Int) (hl : Drawn l) (p st n : Int) (h0 : 0 ≤ p) (h1 : p ≤ 1000000000000) (hn : 1 ≤ n) : ∃ v p' q, spec_l1Cur_pick.f l p st n = some (v, p', q) ∧ (0 ≤ v ∧ v < n) ∧ p ≤ p' ∧ p' ≤ p + 2 := by
  unfold spec_l1Cur_pick.f
  by_cases h : n ≤ 1
  · rw [if_pos h]
    exact ⟨_, _, _, rfl, by omega, by omega, by omega⟩
  · obtain ⟨a, q, e, ha⟩ := draw_next l hl p st h0 (by omega)
    rw [if_neg h, e]
    simp only [Option.bind_some]
    by_cases h2 : n > 200
    · obtain ⟨b, q2, e2, hb⟩ := draw_next l hl (p + 1) q (by omega) (by omega)
      rw [if_pos h2, e2]
      simp only [Option.bind_some]
      rw [if_neg (by omega), w64 (x := a * 256) (by omega) (by omega), w64 (by omega) (by omega), tm (by omega)]
      exact ⟨_, _, _, rfl, ⟨Int.emod_nonneg _ (by omega), Int.emod_lt_of_pos _ (by omega)⟩, by omega, by omega⟩
    · rw [if_neg h2, if_neg (by omega), tm (by omega)]
      exact ⟨_, _, _, rfl, ⟨Int.emod_nonneg _ (by omega), Int.emod_lt_of_pos _ (by omega)⟩, by omega, by omega⟩
theorem draw_among (l : List Int) (hl : Drawn l) (p st : Int) (m : List Int) (h0 : 0 ≤ p) (h1 : p ≤ 1000000000000) (hm : 1 ≤ m.length) : ∃ v p' q, spec_l1Cur_among.f l p st m = some (v, p', q) ∧ v ∈ m ∧ p ≤ p' ∧ p' ≤ p + 2 := by
  obtain ⟨v, p', q, e, hv, hp⟩ := draw_pick l hl p st (m.length : Int) h0 h1 (by omega)
  unfold spec_l1Cur_among.f
  rw [e]
  simp only [Option.bind_some]
  rw [if_pos hv.1, if_pos hv.2]
  refine ⟨_, _, _, rfl, ?_, hp⟩
  have := rd_mem m v.toNat (by omega)
  rwa [Int.toNat_of_nonneg hv.1] at this

-- drawone
theorem draw_one (l : List Int) (hl : Drawn l) (p st n : Int) (h0 : 0 ≤ p) (h1 : p ≤ 1000000000000) (hn : 1 ≤ n) : ∃ b p' q, spec_l1Cur_one.f l p st n = some (b, p', q) ∧ p ≤ p' ∧ p' ≤ p + 2 := by
  obtain ⟨v, p', q, e, _, hp⟩ := draw_pick l hl p st n h0 h1 hn
  unfold spec_l1Cur_one.f
  rw [e]
  exact ⟨_, _, _, rfl, hp⟩

-- drawseq
theorem draw_seq (l : List Int) (hl : Drawn l) (p st : Int) (h0 : 0 ≤ p) (h1 : p ≤ 100000000000) : ∃ v p' q, spec_l1Cur_seq.f l p st = some (v, p', q) ∧ (-1 ≤ v ∧ v ≤ 64) ∧ p ≤ p' ∧ p' ≤ p + 6 := by
  unfold spec_l1Cur_seq.f
  obtain ⟨a, p1, q1, e1, ha, hp1⟩ := draw_pick l hl p st 64 h0 (by omega) (by omega)
  obtain ⟨b, p2, q2, e2, hb, hp2⟩ := draw_pick l hl p1 q1 64 (by omega) (by omega) (by omega)
  obtain ⟨c, p3, q3, e3, hc, hp3⟩ := draw_among l hl p2 q2 [(-1), 0, 1, 31, 32, 33, 63, 64, a, b] (by omega) (by omega) (by simp)
  rw [e1]
  simp only [Option.bind_some]
  rw [e2]
  simp only [Option.bind_some]
  rw [e3]
  refine ⟨c, p3, q3, rfl, ?_, by omega, by omega⟩
  simp only [List.mem_cons, List.not_mem_nil, or_false] at hc
  omega

-- helps
theorem set_take {α : Type} (m L : List α) (i : Nat) (hi : i < L.length) (hm : m.length = L.length) (ht : m.take i = L.take i) (v : α) (hv : L[i]? = some v) : (m.set i v).take (i + 1) = L.take (i + 1) := by
  rw [List.take_set, List.take_succ_eq_append_getElem (by omega), List.take_succ_eq_append_getElem hi, ht, List.set_append_right _ _ (by rw [List.length_take]; omega)]
  rw [List.length_take, show i - min i L.length = 0 by omega]
  rw [List.getElem?_eq_getElem hi] at hv
  rw [Option.some.inj hv]
  rfl
/-- From some number of rounds on: one number for a pair. -/
theorem ev_at {α : Type} {g : Nat → Option α} {r : α} (h : Ev g r) : ∃ K, ∀ k, K ≤ k → g k = some r := h
theorem ev_some {α : Type} {g : Nat → Option α} {r : α} (h : ∀ k, g k = some r) : Ev g r := ⟨0, fun k _ => h k⟩
theorem ev_ge {α : Type} {g : Nat → Option α} {r : α} (K : Nat) (h : ∀ k, K ≤ k → g k = some r) : Ev g r := ⟨K, h⟩

-- gooditem
theorem good_one (a b c : Int) (t : ByteArray) : ∃ r, spec_GoodItem.f a b c t = some r ∧ impl_GoodItem.f a b c t = some r := by
  have e : impl_GoodItem.f a b c t = spec_GoodItem.f a b c t := by
    unfold impl_GoodItem.f spec_GoodItem.f impl_isSeq.f spec_l5Seq.f impl_in.f spec_l1In.f
    rfl
  rw [e]
  unfold spec_GoodItem.f spec_l5Seq.f spec_l1In.f
  by_cases h0 : 1 ≤ a
  · by_cases h1 : a ≤ 1000
    · by_cases h2 : 0 ≤ b
      · by_cases h3 : b ≤ 63
        · by_cases h4 : 0 ≤ c
          · by_cases h5 : c ≤ 20
            · by_cases h6 : (t.size : Int) ≤ 20
              · by_cases h7 : 0 < c
                · exact ⟨true, by simp [h0, h1, h2, h3, h4, h5, h6, h7], by simp [h0, h1, h2, h3, h4, h5, h6, h7]⟩
                · exact ⟨_, by simp [h0, h1, h2, h3, h4, h5, h6, h7]; rfl, by simp [h0, h1, h2, h3, h4, h5, h6, h7]⟩
              · exact ⟨false, by simp [h0, h1, h2, h3, h4, h5, h6], by simp [h0, h1, h2, h3, h4, h5, h6]⟩
            · exact ⟨false, by simp [h0, h1, h2, h3, h4, h5], by simp [h0, h1, h2, h3, h4, h5]⟩
          · exact ⟨false, by simp [h0, h1, h2, h3, h4], by simp [h0, h1, h2, h3, h4]⟩
        · exact ⟨false, by simp [h0, h1, h2, h3], by simp [h0, h1, h2, h3]⟩
      · exact ⟨false, by simp [h0, h1, h2], by simp [h0, h1, h2]⟩
    · exact ⟨false, by simp [h0, h1], by simp [h0, h1]⟩
  · exact ⟨false, by simp [h0], by simp [h0]⟩

-- goodage
theorem good_age (f s a : Int) (t : ByteArray) (h : spec_GoodItem.f f s a t = some true) : (0 ≤ a ∧ a ≤ 20) ∧ (0 ≤ s ∧ s ≤ 63) := by
  unfold spec_GoodItem.f spec_l5Seq.f spec_l1In.f at h
  simp only [ge_iff_le] at h
  by_cases h0 : 1 ≤ f
  · by_cases h1 : f ≤ 1000
    · by_cases h2 : 0 ≤ s
      · by_cases h3 : s ≤ 63
        · by_cases h4 : 0 ≤ a
          · by_cases h5 : a ≤ 20
            · exact ⟨⟨h4, h5⟩, h2, h3⟩
            · simp [h0, h1, h2, h3, h4, h5] at h
          · simp [h0, h1, h2, h3, h4] at h
        · simp [h0, h1, h2, h3] at h
      · simp [h0, h1, h2] at h
    · simp [h0, h1] at h
  · simp [h0] at h

-- newer
/-- Is a newer than b, by the code's own sum. -/
def nw (a b : Int) : Bool := decide (1 ≤ Int.tmod (wrap64 ((wrap64 (a - b)) + 64)) 64 ∧ Int.tmod (wrap64 ((wrap64 (a - b)) + 64)) 64 ≤ 31)
theorem spec_newer (a b : Int) : spec_l5Newer.f a b = some (nw a b) := by
  unfold spec_l5Newer.f spec_l5Steps.f spec_l1In.f nw
  simp only [Option.bind_some, ge_iff_le]
  by_cases h : 1 ≤ Int.tmod (wrap64 ((wrap64 (a - b)) + 64)) 64
  · simp [h]
  · simp [h]
theorem impl_newer (a b : Int) : impl_isNewer.f a b = some (nw a b) := by
  unfold impl_isNewer.f impl_stepsTo.f impl_in.f nw
  simp only [Option.bind_some, ge_iff_le]
  by_cases h : 1 ≤ Int.tmod (wrap64 ((wrap64 (a - b)) + 64)) 64
  · simp [h]
  · simp [h]
theorem nw_self (a : Int) : nw a a = false := by
  unfold nw
  rw [Int.sub_self, w64 (x := 0) (by omega) (by omega), w64 (by omega) (by omega)]
  decide
theorem nw_eq (a b : Int) (ha : 0 ≤ a ∧ a ≤ 63) (hb : 0 ≤ b ∧ b ≤ 63) : nw a b = decide (1 ≤ (a - b + 64) % 64 ∧ (a - b + 64) % 64 ≤ 31) := by
  unfold nw
  rw [w64 (x := a - b) (by omega) (by omega), w64 (by omega) (by omega), tm (by omega)]
theorem nw_anti (a b : Int) (ha : 0 ≤ a ∧ a ≤ 63) (hb : 0 ≤ b ∧ b ≤ 63) (h : nw a b = true) : nw b a = false := by
  rw [nw_eq _ _ ha hb] at h
  rw [nw_eq _ _ hb ha]
  simp at h ⊢
  omega

-- better
/-- Which of two items is better. -/
def bt2 (s1 a1 : Int) (t1 : ByteArray) (s2 a2 : Int) (t2 : ByteArray) : Int :=
  if nw s1 s2 = true then 1 else if nw s2 s1 = true then 2 else if s1 = s2 then (if a1 = 0 ∧ ¬ a2 = 0 then 1 else if a2 = 0 ∧ ¬ a1 = 0 then 2 else if t1.toList = t2.toList then 0 else 3) else 3
theorem spec_better (k : Nat) (hk : 3 ≤ k) (f1 s1 a1 : Int) (t1 : ByteArray) (f2 s2 a2 : Int) (t2 : ByteArray) : spec_l5Better.f k f1 s1 a1 t1 f2 s2 a2 t2 = some (bt2 s1 a1 t1 s2 a2 t2) := by
  obtain ⟨k, rfl⟩ : ∃ m, k = m + 3 := ⟨k - 3, by omega⟩
  unfold spec_l5Better.f bt2
  rw [spec_newer, spec_newer]
  simp only [Option.bind_some]
  by_cases h1 : nw s1 s2 = true
  · simp [h1]
  · by_cases h2 : nw s2 s1 = true
    · simp [h1, h2]
    · by_cases h3 : s1 = s2
      · by_cases h4 : a1 = 0
        · by_cases h5 : a2 = 0
          · by_cases h6 : t1.toList = t2.toList
            · simp [h1, h2, h3, h4, h5, h6, spec_l5Better.j0, spec_l5Better.j1, nw_self]
            · simp [h1, h2, h3, h4, h5, h6, spec_l5Better.j0, spec_l5Better.j1, nw_self]
          · simp [h1, h2, h3, h4, h5, spec_l5Better.j0, spec_l5Better.j1, nw_self]
        · by_cases h5 : a2 = 0
          · simp [h1, h2, h3, h4, h5, spec_l5Better.j0, spec_l5Better.j1, nw_self]
          · by_cases h6 : t1.toList = t2.toList
            · simp [h1, h2, h3, h4, h5, h6, spec_l5Better.j0, spec_l5Better.j1, nw_self]
            · simp [h1, h2, h3, h4, h5, h6, spec_l5Better.j0, spec_l5Better.j1, nw_self]
      · simp [h1, h2, h3]
theorem impl_better_f (k : Nat) (hk : 3 ≤ k) (f1 s1 a1 : Int) (t1 : ByteArray) (f2 s2 a2 : Int) (t2 : ByteArray) : impl_better.f k f1 s1 a1 t1 f2 s2 a2 t2 = some (bt2 s1 a1 t1 s2 a2 t2) := by
  obtain ⟨k, rfl⟩ : ∃ m, k = m + 3 := ⟨k - 3, by omega⟩
  unfold impl_better.f bt2
  by_cases h3 : s1 = s2
  · subst h3
    have h1 := nw_self s1
    by_cases h4 : a1 = 0
    · by_cases h5 : a2 = 0
      · by_cases h6 : t1.toList = t2.toList
        · simp [impl_better.j0, impl_newer, h1, h4, h5, h6]
        · simp [impl_better.j0, impl_better.j1, impl_newer, h1, h4, h5, h6]
      · by_cases h6 : t1.toList = t2.toList
        · simp [impl_better.j0, impl_better.j1, impl_newer, h1, h4, h5, h6]
        · simp [impl_better.j0, impl_better.j1, impl_newer, h1, h4, h5, h6]
    · have e4 : (a1 == 0) = false := beq_eq_false_iff_ne.2 h4
      by_cases h5 : a2 = 0
      · by_cases h6 : t1.toList = t2.toList
        · simp [impl_better.j0, impl_better.j1, impl_newer, h1, h4, h5, h6, e4]
        · simp [impl_better.j0, impl_better.j1, impl_newer, h1, h4, h5, h6, e4]
      · have e5 : (a2 == 0) = false := beq_eq_false_iff_ne.2 h5
        by_cases h6 : t1.toList = t2.toList
        · simp [impl_better.j0, impl_better.j1, impl_newer, h1, h4, h5, h6, e4, e5]
        · simp [impl_better.j0, impl_better.j1, impl_newer, h1, h4, h5, h6, e4, e5]
  · by_cases h1 : nw s1 s2 = true
    · simp [impl_better.j0, impl_better.j1, impl_newer, h1, h3]
    · by_cases h2 : nw s2 s1 = true
      · simp [impl_better.j0, impl_better.j1, impl_newer, h1, h2, h3]
      · simp [impl_better.j0, impl_better.j1, impl_newer, h1, h2, h3]

-- rdt(33)
theorem rd_T33_at (l : List S33) (i : Nat) (h : i < l.length) : rd_T33 l i = l[i] := by
  simp [rd_T33, List.getD_eq_getElem?_getD, List.getElem?_eq_getElem h]

-- newest(33)
/-- Which items are as they should be. -/
def okI (x : S33) : Bool := (spec_GoodItem.f x.f0 x.f1 x.f2 x.f3).getD false
theorem okI_spec (x : S33) : spec_GoodItem.f x.f0 x.f1 x.f2 x.f3 = some (okI x) := by
  obtain ⟨r, e1, _⟩ := good_one x.f0 x.f1 x.f2 x.f3
  rw [okI, e1]
  rfl
theorem okI_impl (x : S33) : impl_GoodItem.f x.f0 x.f1 x.f2 x.f3 = some (okI x) := by
  obtain ⟨r, e1, e2⟩ := good_one x.f0 x.f1 x.f2 x.f3
  rw [okI, e1, e2]
  rfl
def btr (y x : S33) : Int := bt2 y.f1 y.f2 y.f3 x.f1 x.f2 x.f3
/-- The first item that none beats. -/
def firstI (l : List S33) : List S33 → Int × Int × Int × ByteArray × Bool
  | [] => (0, 0, 0, (⟨#[]⟩ : ByteArray), false)
  | x :: r => if (l.any fun y => btr y x == 1) = true then firstI l r else (x.f0, x.f1, x.f2, x.f3, true)
theorem drop_S (l : List S33) (i : Nat) (h : i < l.length) : l.drop i = rd_T33 l i :: l.drop (i + 1) := by
  rw [rd_T33_at l i h]
  exact List.drop_eq_getElem_cons h
theorem wi (i : Nat) (h : i ≤ 4611686018427387904) : wrap64 ((i : Int) + 1) = ((i + 1 : Nat) : Int) := by
  rw [w64 (by omega) (by omega)]
  omega

-- newest2(33;spec;spec_better)
theorem spec_n2 (l : List S33) (hl : l.length ≤ 20) (i : Nat) (x : S33) (r : Int × Int × Int × ByteArray × Bool) (h : Ev (fun k => spec_NewestOf.l1 k l l l.length (wrap64 (i + 1))) r) (d : Nat) : ∀ (j : Nat) (b : Bool), j + d = l.length →
    Ev (fun k => spec_NewestOf.l2 k l b l l.length i l l.length j x.f0 x.f1 x.f2 x.f3) (if (b || (l.drop j).any fun y => btr y x == 1) = true then r else (x.f0, x.f1, x.f2, x.f3, true)) := by
  induction d with
  | zero =>
    intro j b hj
    rw [List.drop_of_length_le (by omega), List.any_nil]
    cases b
    · exact Ev.step (fun k => by simp only [spec_NewestOf.l2]; rw [if_neg (by omega), if_neg (by decide)]; rfl) (Ev.now _)
    · exact Ev.step (fun k => by simp only [spec_NewestOf.l2]; rw [if_neg (by omega)]; simp only [if_true]) h
  | succ d ih =>
    intro j b hj
    rw [drop_S l j (by omega), List.any_cons]
    cases b
    · have ih := ih (j + 1) (btr (rd_T33 l j) x == 1) (by omega)
      rw [Bool.false_or]
      obtain ⟨K, h0⟩ := ih
      refine ⟨K + 5, fun k hk => ?_⟩
      obtain ⟨k, rfl⟩ : ∃ m, k = m + 1 := ⟨k - 1, by omega⟩
      simp only [spec_NewestOf.l2]
      rw [if_pos (by omega), if_pos (by omega), if_pos (by omega), if_neg (by decide), spec_better k (by omega), wi _ (by omega)]
      exact h0 k (by omega)
    · have ih := ih (j + 1) true (by omega)
      rw [Bool.true_or] at ih ⊢
      refine Ev.step (fun k => ?_) ih
      simp only [spec_NewestOf.l2]
      rw [if_pos (by omega), if_pos (by omega), if_pos (by omega), wi _ (by omega)]
      simp only [if_true]
theorem spec_n1 (l : List S33) (hl : l.length ≤ 20) (d : Nat) : ∀ i : Nat, i + d = l.length → Ev (fun k => spec_NewestOf.l1 k l l l.length i) (firstI l (l.drop i)) := by
  induction d with
  | zero =>
    intro i hi
    rw [List.drop_of_length_le (by omega)]
    exact Ev.step (fun k => by simp only [spec_NewestOf.l1]; rw [if_neg (by omega)]; rfl) (Ev.now _)
  | succ d ih =>
    intro i hi
    rw [drop_S l i (by omega)]
    have h2 := spec_n2 l hl i (rd_T33 l i) _ (by rw [wi _ (by omega)]; exact ih (i + 1) (by omega)) l.length 0 false (by omega)
    refine Ev.step (fun k => by simp only [spec_NewestOf.l1]; rw [if_pos (by omega), if_pos (by omega), if_pos (by omega)]) ?_
    rw [Bool.false_or, List.drop_zero] at h2
    exact h2

-- newest2(33;impl;impl_better_f)
theorem impl_n2 (l : List S33) (hl : l.length ≤ 20) (i : Nat) (x : S33) (r : Int × Int × Int × ByteArray × Bool) (h : Ev (fun k => impl_NewestOf.l1 k l l l.length (wrap64 (i + 1))) r) (d : Nat) : ∀ (j : Nat) (b : Bool), j + d = l.length →
    Ev (fun k => impl_NewestOf.l2 k l b l l.length i l l.length j x.f0 x.f1 x.f2 x.f3) (if (b || (l.drop j).any fun y => btr y x == 1) = true then r else (x.f0, x.f1, x.f2, x.f3, true)) := by
  induction d with
  | zero =>
    intro j b hj
    rw [List.drop_of_length_le (by omega), List.any_nil]
    cases b
    · exact Ev.step (fun k => by simp only [impl_NewestOf.l2]; rw [if_neg (by omega), if_neg (by decide)]; rfl) (Ev.now _)
    · exact Ev.step (fun k => by simp only [impl_NewestOf.l2]; rw [if_neg (by omega)]; simp only [if_true]) h
  | succ d ih =>
    intro j b hj
    rw [drop_S l j (by omega), List.any_cons]
    cases b
    · have ih := ih (j + 1) (btr (rd_T33 l j) x == 1) (by omega)
      rw [Bool.false_or]
      obtain ⟨K, h0⟩ := ih
      refine ⟨K + 5, fun k hk => ?_⟩
      obtain ⟨k, rfl⟩ : ∃ m, k = m + 1 := ⟨k - 1, by omega⟩
      simp only [impl_NewestOf.l2]
      rw [if_pos (by omega), if_pos (by omega), if_pos (by omega), if_neg (by decide), impl_better_f k (by omega), wi _ (by omega)]
      exact h0 k (by omega)
    · have ih := ih (j + 1) true (by omega)
      rw [Bool.true_or] at ih ⊢
      refine Ev.step (fun k => ?_) ih
      simp only [impl_NewestOf.l2]
      rw [if_pos (by omega), if_pos (by omega), if_pos (by omega), wi _ (by omega)]
      simp only [if_true]
theorem impl_n1 (l : List S33) (hl : l.length ≤ 20) (d : Nat) : ∀ i : Nat, i + d = l.length → Ev (fun k => impl_NewestOf.l1 k l l l.length i) (firstI l (l.drop i)) := by
  induction d with
  | zero =>
    intro i hi
    rw [List.drop_of_length_le (by omega)]
    exact Ev.step (fun k => by simp only [impl_NewestOf.l1]; rw [if_neg (by omega)]; rfl) (Ev.now _)
  | succ d ih =>
    intro i hi
    rw [drop_S l i (by omega)]
    have h2 := impl_n2 l hl i (rd_T33 l i) _ (by rw [wi _ (by omega)]; exact ih (i + 1) (by omega)) l.length 0 false (by omega)
    refine Ev.step (fun k => by simp only [impl_NewestOf.l1]; rw [if_pos (by omega), if_pos (by omega), if_pos (by omega)]) ?_
    rw [Bool.false_or, List.drop_zero] at h2
    exact h2

-- newest3(33)
/-- Are all items as they should be, and of one From? -/
def allI (l : List S33) (f : Int) : Bool := l.all fun x => okI x && x.f0 == f
/-- What NewestOf tells. -/
def newestI (l : List S33) : Int × Int × Int × ByteArray × Bool := if allI l (rd_T33 l 0).f0 = true ∧ l.length ≤ 20 then firstI l l else (0, 0, 0, (⟨#[]⟩ : ByteArray), false)
theorem spec_n0 (l : List S33) (hn : l.length ≤ 4611686018427387904) (d : Nat) : ∀ i : Nat, i + d = l.length → Ev (fun k => spec_NewestOf.l0 k l l l.length i) (if allI (l.drop i) (rd_T33 l 0).f0 = true ∧ l.length ≤ 20 then firstI l l else (0, 0, 0, (⟨#[]⟩ : ByteArray), false)) := by
  induction d with
  | zero =>
    intro i hi
    rw [List.drop_of_length_le (by omega)]
    by_cases h : l.length ≤ 20
    · rw [if_pos ⟨rfl, h⟩]
      refine Ev.step (fun k => by simp only [spec_NewestOf.l0]; rw [if_neg (by omega), if_neg (by omega)]) ?_
      have := spec_n1 l h l.length 0 (by omega)
      rw [List.drop_zero] at this
      exact this
    · rw [if_neg (fun e => h e.2)]
      exact Ev.step (fun k => by simp only [spec_NewestOf.l0]; rw [if_neg (by omega), if_pos (by omega)]) (Ev.now _)
  | succ d ih =>
    intro i hi
    rw [drop_S l i (by omega)]
    have ih := ih (i + 1) (by omega)
    unfold allI at ih ⊢
    rw [List.all_cons]
    cases h1 : okI (rd_T33 l i)
    · rw [if_neg (by simp)]
      refine Ev.step (f := fun _ => some (0, 0, 0, (⟨#[]⟩ : ByteArray), false)) (fun k => ?_) (Ev.now _)
      simp only [spec_NewestOf.l0]
      rw [if_pos (by omega), if_pos (by omega), if_pos (by omega), okI_spec, h1]
      simp
    · by_cases h2 : (rd_T33 l i).f0 = (rd_T33 l 0).f0
      · rw [show ((rd_T33 l i).f0 == (rd_T33 l 0).f0) = true from beq_iff_eq.2 h2]
        simp only [Bool.true_and]
        refine Ev.step (fun k => ?_) ih
        simp only [spec_NewestOf.l0]
        rw [if_pos (by omega), if_pos (by omega), if_pos (by omega), okI_spec, h1, wi _ (by omega)]
        simp only [Option.bind_some, if_true]
        rw [if_pos (by omega), if_pos h2]
      · rw [if_neg (by simp [h2])]
        refine Ev.step (f := fun _ => some (0, 0, 0, (⟨#[]⟩ : ByteArray), false)) (fun k => ?_) (Ev.now _)
        simp only [spec_NewestOf.l0]
        rw [if_pos (by omega), if_pos (by omega), if_pos (by omega), okI_spec, h1]
        simp only [Option.bind_some, if_true]
        rw [if_pos (by omega), if_neg h2]
theorem impl_n0 (l : List S33) (hn : l.length ≤ 20) (d : Nat) : ∀ i : Nat, i + d = l.length → Ev (fun k => impl_NewestOf.l0 k l l l.length i) (if allI (l.drop i) (rd_T33 l 0).f0 = true then firstI l l else (0, 0, 0, (⟨#[]⟩ : ByteArray), false)) := by
  induction d with
  | zero =>
    intro i hi
    rw [List.drop_of_length_le (by omega)]
    rw [if_pos (show allI [] (rd_T33 l 0).f0 = true from rfl)]
    refine Ev.step (fun k => by simp only [impl_NewestOf.l0]; rw [if_neg (by omega)]) ?_
    have := impl_n1 l hn l.length 0 (by omega)
    rw [List.drop_zero] at this
    exact this
  | succ d ih =>
    intro i hi
    rw [drop_S l i (by omega)]
    have ih := ih (i + 1) (by omega)
    unfold allI at ih ⊢
    rw [List.all_cons]
    cases h1 : okI (rd_T33 l i)
    · rw [if_neg (by simp)]
      refine Ev.step (f := fun _ => some (0, 0, 0, (⟨#[]⟩ : ByteArray), false)) (fun k => ?_) (Ev.now _)
      simp only [impl_NewestOf.l0]
      rw [if_pos (by omega), if_pos (by omega), if_pos (by omega), okI_impl, h1]
      simp
    · by_cases h2 : (rd_T33 l i).f0 = (rd_T33 l 0).f0
      · rw [show ((rd_T33 l i).f0 == (rd_T33 l 0).f0) = true from beq_iff_eq.2 h2]
        simp only [Bool.true_and]
        refine Ev.step (fun k => ?_) ih
        simp only [impl_NewestOf.l0]
        rw [if_pos (by omega), if_pos (by omega), if_pos (by omega), okI_impl, h1, wi _ (by omega)]
        simp only [Option.bind_some, if_true]
        rw [if_pos (by omega), if_pos h2]
      · rw [if_neg (by simp [h2])]
        refine Ev.step (f := fun _ => some (0, 0, 0, (⟨#[]⟩ : ByteArray), false)) (fun k => ?_) (Ev.now _)
        simp only [impl_NewestOf.l0]
        rw [if_pos (by omega), if_pos (by omega), if_pos (by omega), okI_impl, h1]
        simp only [Option.bind_some, if_true]
        rw [if_pos (by omega), if_neg h2]
theorem spec_newest (l : List S33) (hn : l.length ≤ 4611686018427387904) : Ev (fun k => spec_NewestOf.f k l) (newestI l) := by
  have := spec_n0 l hn l.length 0 (by omega)
  rw [List.drop_zero] at this
  exact this
theorem impl_newest (l : List S33) (hn : l.length ≤ 4611686018427387904) : Ev (fun k => impl_NewestOf.f k l) (newestI l) := by
  by_cases h1 : 1 ≤ l.length
  · by_cases h2 : l.length ≤ 20
    · have := impl_n0 l h2 l.length 0 (by omega)
      rw [List.drop_zero] at this
      refine Ev.congr (fun k => ?_) (f := fun k => impl_NewestOf.l0 k l l l.length 0) ?_
      · unfold impl_NewestOf.f impl_in.f
        rw [if_pos (show (l.length : Int) ≥ 1 by omega), decide_eq_true (show (l.length : Int) ≤ 20 by omega)]
        rfl
      unfold newestI
      simp only [h2, and_true]
      exact this
    · unfold newestI
      rw [if_neg (fun e => h2 e.2)]
      refine Ev.congr (fun k => ?_) (Ev.now _)
      unfold impl_NewestOf.f impl_in.f
      rw [if_pos (show (l.length : Int) ≥ 1 by omega), decide_eq_false (show ¬ (l.length : Int) ≤ 20 by omega)]
      rfl
  · obtain rfl : l = [] := List.length_eq_zero_iff.1 (by omega)
    exact Ev.congr (fun k => rfl) (Ev.now _)

/-- Is an item as it should be. -/
def gdI (f s a : Int) (t : ByteArray) : Bool := (spec_GoodItem.f f s a t).getD false
theorem gdI_spec (f s a : Int) (t : ByteArray) : spec_GoodItem.f f s a t = some (gdI f s a t) := by
  obtain ⟨r, e1, _⟩ := good_one f s a t
  rw [gdI, e1]
  rfl
theorem gdI_impl (f s a : Int) (t : ByteArray) : impl_GoodItem.f f s a t = some (gdI f s a t) := by
  obtain ⟨r, e1, e2⟩ := good_one f s a t
  rw [gdI, e1, e2]
  rfl
theorem gdI_in (f s a : Int) (t : ByteArray) (h : gdI f s a t = true) : (0 ≤ a ∧ a ≤ 20) ∧ (0 ≤ s ∧ s ≤ 63) := good_age f s a t (by rw [gdI_spec, h])
/-- What Better tells. -/
def betI (f1 s1 a1 : Int) (t1 : ByteArray) (f2 s2 a2 : Int) (t2 : ByteArray) : Int × Bool := if gdI f1 s1 a1 t1 = true ∧ gdI f2 s2 a2 t2 = true ∧ f1 = f2 then (bt2 s1 a1 t1 s2 a2 t2, true) else (0, false)
theorem bet_both (k : Nat) (hk : 4 ≤ k) (f1 s1 a1 : Int) (t1 : ByteArray) (f2 s2 a2 : Int) (t2 : ByteArray) : spec_Better.f k f1 s1 a1 t1 f2 s2 a2 t2 = some (betI f1 s1 a1 t1 f2 s2 a2 t2) ∧ impl_Better.f k f1 s1 a1 t1 f2 s2 a2 t2 = some (betI f1 s1 a1 t1 f2 s2 a2 t2) := by
  have b1 := spec_better k (by omega) f1 s1 a1 t1 f2 s2 a2 t2
  have b2 := impl_better_f k (by omega) f1 s1 a1 t1 f2 s2 a2 t2
  unfold spec_Better.f impl_Better.f betI
  rw [gdI_spec, gdI_impl, gdI_spec, gdI_impl, b1, b2]
  cases gdI f1 s1 a1 t1
  · exact ⟨rfl, rfl⟩
  · cases gdI f2 s2 a2 t2
    · exact ⟨rfl, rfl⟩
    · by_cases h : f1 = f2
      · subst h
        simp
      · simp [h]
theorem bt2_range (s1 a1 : Int) (t1 : ByteArray) (s2 a2 : Int) (t2 : ByteArray) : bt2 s1 a1 t1 s2 a2 t2 = 0 ∨ bt2 s1 a1 t1 s2 a2 t2 = 1 ∨ bt2 s1 a1 t1 s2 a2 t2 = 2 ∨ bt2 s1 a1 t1 s2 a2 t2 = 3 := by
  unfold bt2
  by_cases h1 : nw s1 s2 = true
  · simp [h1]
  · by_cases h2 : nw s2 s1 = true
    · simp [h1, h2]
    · by_cases h3 : s1 = s2
      · by_cases h4 : a1 = 0 <;> by_cases h5 : a2 = 0 <;> by_cases h6 : t1.toList = t2.toList <;> simp [h1, h2, h3, h4, h5, h6, nw_self]
      · simp [h1, h2, h3]
theorem bt2_turn (s1 a1 : Int) (t1 : ByteArray) (s2 a2 : Int) (t2 : ByteArray) (hs1 : 0 ≤ s1 ∧ s1 ≤ 63) (hs2 : 0 ≤ s2 ∧ s2 ≤ 63) :
    bt2 s2 a2 t2 s1 a1 t1 = if bt2 s1 a1 t1 s2 a2 t2 = 1 then 2 else if bt2 s1 a1 t1 s2 a2 t2 = 2 then 1 else bt2 s1 a1 t1 s2 a2 t2 := by
  unfold bt2
  by_cases h1 : nw s1 s2 = true
  · simp [h1, nw_anti _ _ hs1 hs2 h1]
  · by_cases h2 : nw s2 s1 = true
    · simp [h1, h2]
    · by_cases h3 : s1 = s2
      · subst h3
        by_cases h4 : a1 = 0
        · by_cases h5 : a2 = 0
          · by_cases h6 : t1.toList = t2.toList
            · simp [h4, h5, h6, nw_self]
            · simp [h4, h5, h6, Ne.symm h6, nw_self]
          · simp [h4, h5, nw_self]
        · by_cases h5 : a2 = 0
          · simp [h4, h5, nw_self]
          · by_cases h6 : t1.toList = t2.toList
            · simp [h4, h5, h6, nw_self]
            · simp [h4, h5, h6, Ne.symm h6, nw_self]
      · simp [h1, h2, h3, Ne.symm h3]
/-- What AgeItem tells. -/
def ageI (f s a : Int) (t : ByteArray) (n : Int) : Int × Int × Int × ByteArray × Bool := if gdI f s a t = true ∧ 0 ≤ n ∧ n ≤ 100 then (if a ≤ n then (f, s, 0, (⟨#[]⟩ : ByteArray), true) else (f, s, a - n, t, true)) else (0, 0, 0, (⟨#[]⟩ : ByteArray), false)
theorem age_both (k : Nat) (hk : 2 ≤ k) (f s a : Int) (t : ByteArray) (n : Int) : spec_AgeItem.f k f s a t n = some (ageI f s a t n) ∧ impl_AgeItem.f k f s a t n = some (ageI f s a t n) := by
  obtain ⟨k, rfl⟩ : ∃ m, k = m + 1 := ⟨k - 1, by omega⟩
  unfold spec_AgeItem.f impl_AgeItem.f ageI
  rw [gdI_spec, gdI_impl]
  cases hr : gdI f s a t
  · exact ⟨rfl, rfl⟩
  · have hg := gdI_in f s a t hr
    simp only [Option.bind_some, if_true]
    unfold spec_l1In.f impl_in.f
    by_cases h0 : 0 ≤ n
    · by_cases h1 : n ≤ 100
      · simp only [ge_iff_le, if_pos h0, decide_eq_true h1, Option.bind_some, spec_AgeItem.j0, impl_AgeItem.j0, Bool.not_true, Bool.false_eq_true, if_false]
        have hc : True ∧ 0 ≤ n ∧ n ≤ 100 := ⟨trivial, h0, h1⟩
        rw [w64 (x := a - n) (by omega) (by omega)]
        by_cases h2 : a ≤ n
        · have e : mx 0 (a - n) = 0 := by unfold mx; omega
          simp only [if_pos h2, e, if_true, if_pos hc]
          exact ⟨trivial, trivial⟩
        · have e : mx 0 (a - n) = a - n := by unfold mx; omega
          have e2 : ¬ a - n = 0 := by omega
          simp only [if_neg h2, e, if_neg e2, if_pos hc]
          exact ⟨trivial, trivial⟩
      · simp only [ge_iff_le, if_pos h0, decide_eq_false h1, Option.bind_some, spec_AgeItem.j0, impl_AgeItem.j0, Bool.not_false, if_true]
        rw [if_neg (fun e => h1 e.2.2)]
        exact ⟨rfl, rfl⟩
    · simp only [ge_iff_le, if_neg h0, Option.bind_some, spec_AgeItem.j0, impl_AgeItem.j0, Bool.not_false, if_true]
      rw [if_neg (fun e => h0 e.2.1)]
      exact ⟨rfl, rfl⟩
theorem gdI_is (f s a : Int) (t : ByteArray) : gdI f s a t = true ↔ (1 ≤ f ∧ f ≤ 1000) ∧ (0 ≤ s ∧ s ≤ 63) ∧ (0 ≤ a ∧ a ≤ 20) ∧ (t.size : Int) ≤ 20 ∧ (0 < a ∨ t.toList = []) := by
  unfold gdI spec_GoodItem.f spec_l5Seq.f spec_l1In.f
  simp only [ge_iff_le]
  by_cases h0 : 1 ≤ f
  · by_cases h1 : f ≤ 1000
    · by_cases h2 : 0 ≤ s
      · by_cases h3 : s ≤ 63
        · by_cases h4 : 0 ≤ a
          · by_cases h5 : a ≤ 20
            · by_cases h6 : (t.size : Int) ≤ 20
              · by_cases h7 : 0 < a
                · simp [h0, h1, h2, h3, h4, h5, h6, h7]
                · simp [h0, h1, h2, h3, h4, h5, h6, h7]
              · simp [h0, h1, h2, h3, h4, h5, h6]
            · simp [h0, h1, h2, h3, h4, h5]
          · simp [h0, h1, h2, h3, h4]
        · simp [h0, h1, h2, h3]
      · simp [h0, h1, h2]
    · simp [h0, h1]
  · simp [h0]
theorem empty_list : (⟨#[]⟩ : ByteArray).toList = [] := by
  unfold ByteArray.toList ByteArray.toList.loop
  rfl
theorem gdI_old (f s a : Int) (t : ByteArray) (h : gdI f s a t = true) : gdI f s 0 (⟨#[]⟩ : ByteArray) = true := by
  rw [gdI_is] at h ⊢
  exact ⟨h.1, h.2.1, by omega, by show ((0 : Nat) : Int) ≤ 20; omega, .inr empty_list⟩
theorem gdI_less (f s a b : Int) (t : ByteArray) (h : gdI f s a t = true) (hb : 0 < b) (hb2 : b ≤ a) : gdI f s b t = true := by
  rw [gdI_is] at h ⊢
  exact ⟨h.1, h.2.1, by omega, h.2.2.2.1, .inl hb⟩
-- the draws
theorem draw_of (l : List Int) (hl : Drawn l) (p st : Int) (m : List ByteArray) (h0 : 0 ≤ p) (h1 : p ≤ 1000000000000) (hm : 1 ≤ m.length) : ∃ v p' q, spec_l1Cur_of.f l p st m = some (v, p', q) ∧ p ≤ p' ∧ p' ≤ p + 2 := by
  obtain ⟨v, p', q, e, hv, hp⟩ := draw_pick l hl p st (m.length : Int) h0 h1 (by omega)
  unfold spec_l1Cur_of.f
  rw [e]
  simp only [Option.bind_some]
  rw [if_pos hv.1, if_pos hv.2]
  exact ⟨_, _, _, rfl, hp⟩
theorem draw_item0 (l : List Int) (hl : Drawn l) (p st a b c : Int) (t : ByteArray) (h0 : 0 ≤ p) (h1 : p ≤ 10000000000) : ∃ a' b' c' t' p' q, (∀ k, spec_l1Cur_item.j0 (k + 1) l p st a b c t = some (a', b', c', t', p', q)) ∧ p ≤ p' ∧ p' ≤ p + 12 := by
  obtain ⟨o, p1, q1, e1, hp1⟩ := draw_one l hl p st 30 h0 (by omega) (by omega)
  cases o
  · exact ⟨a, b, c, t, p1, q1, fun k => by simp only [spec_l1Cur_item.j0]; rw [e1]; rfl, by omega, by omega⟩
  · obtain ⟨u, p2, q2, e2, _, hp2⟩ := draw_among l hl p1 q1 [0, 1, 1001] (by omega) (by omega) (by simp)
    obtain ⟨v, p3, q3, e3, _, hp3⟩ := draw_seq l hl p2 q2 (by omega) (by omega)
    obtain ⟨x, p4, q4, e4, _, hp4⟩ := draw_among l hl p3 q3 [(-1), 0, 20, 21] (by omega) (by omega) (by simp)
    refine ⟨u, v, x, (⟨#[116]⟩ : ByteArray), p4, q4, fun k => ?_, by omega, by omega⟩
    simp only [spec_l1Cur_item.j0]
    rw [e1]
    simp only [Option.bind_some, if_true]
    rw [e2]
    simp only [Option.bind_some]
    rw [e3]
    simp only [Option.bind_some]
    rw [e4]
    rfl
theorem draw_item (l : List Int) (hl : Drawn l) (p st : Int) (h0 : 0 ≤ p) (h1 : p ≤ 1000000000) : ∃ a b c t p' q, (∀ k, spec_l1Cur_item.f (k + 1) l p st = some (a, b, c, t, p', q)) ∧ p ≤ p' ∧ p' ≤ p + 22 := by
  obtain ⟨x1, p1, q1, e1, _, hp1⟩ := draw_pick l hl p st 3 h0 (by omega) (by omega)
  obtain ⟨x2, p2, q2, e2, _, hp2⟩ := draw_pick l hl p1 q1 64 (by omega) (by omega) (by omega)
  obtain ⟨x3, p3, q3, e3, _, hp3⟩ := draw_pick l hl p2 q2 20 (by omega) (by omega) (by omega)
  obtain ⟨x4, p4, q4, e4, hp4⟩ := draw_of l hl p3 q3 [(⟨#[]⟩ : ByteArray), (⟨#[97]⟩ : ByteArray), (⟨#[98]⟩ : ByteArray)] (by omega) (by omega) (by simp)
  obtain ⟨x5, p5, q5, e5, hp5⟩ := draw_one l hl p4 q4 6 (by omega) (by omega) (by omega)
  cases x5
  · obtain ⟨a, b, c, t, p6, q6, e6, hp6⟩ := draw_item0 l hl p5 q5 (wrap64 (1 + x1)) x2 (wrap64 (1 + x3)) x4 (by omega) (by omega)
    refine ⟨a, b, c, t, p6, q6, fun k => ?_, by omega, by omega⟩
    unfold spec_l1Cur_item.f
    rw [e1]
    simp only [Option.bind_some]
    rw [e2]
    simp only [Option.bind_some]
    rw [e3]
    simp only [Option.bind_some]
    rw [e4]
    simp only [Option.bind_some]
    rw [e5]
    simp only [Option.bind_some]
    rw [if_neg (by decide)]
    exact e6 k
  · obtain ⟨a, b, c, t, p6, q6, e6, hp6⟩ := draw_item0 l hl p5 q5 (wrap64 (1 + x1)) x2 0 (⟨#[]⟩ : ByteArray) (by omega) (by omega)
    refine ⟨a, b, c, t, p6, q6, fun k => ?_, by omega, by omega⟩
    unfold spec_l1Cur_item.f
    rw [e1]
    simp only [Option.bind_some]
    rw [e2]
    simp only [Option.bind_some]
    rw [e3]
    simp only [Option.bind_some]
    rw [e4]
    simp only [Option.bind_some]
    rw [e5]
    simp only [Option.bind_some]
    rw [if_pos trivial]
    exact e6 k
theorem draw_better (l : List Int) (hl : Drawn l) : ∃ f1 s1 a1 t1 f2 s2 a2 t2, ∀ k, spec_DrawBetter.f (k + 1) l = some (f1, s1, a1, t1, f2, s2, a2, t2) := by
  obtain ⟨a, b, c, t, p1, q1, e1, hp1⟩ := draw_item l hl 0 0 (by omega) (by omega)
  obtain ⟨a', b', c', t', p2, q2, e2, hp2⟩ := draw_item l hl p1 q1 (by omega) (by omega)
  obtain ⟨x, p3, q3, e3, hp3⟩ := draw_one l hl p2 q2 8 (by omega) (by omega) (by omega)
  obtain ⟨y, p4, q4, e4, hp4⟩ := draw_one l hl p3 q3 3 (by omega) (by omega) (by omega)
  refine ⟨a, b, c, t, if x = true then a' else a, if y = true then b else b', c', t', fun k => ?_⟩
  unfold spec_DrawBetter.f
  rw [e1]
  simp only [Option.bind_some]
  rw [e2]
  simp only [Option.bind_some]
  rw [e3]
  simp only [Option.bind_some]
  rw [e4]
  cases x <;> cases y <;> rfl
theorem draw_newest_l (l : List Int) (hl : Drawn l) (d : Nat) : ∀ (x : List S33) (p st : Int), x.length + d ≤ 21 → 0 ≤ p → p + 24 * d ≤ 1000 →
    ∃ r : List S33, (∀ k, d < k → spec_DrawNewestOf.l0 k x d l p st = some r) ∧ r.length ≤ 21 := by
  induction d with
  | zero =>
    intro x p st hx h0 h1
    refine ⟨x, fun k hk => ?_, by omega⟩
    obtain ⟨k, rfl⟩ : ∃ m, k = m + 1 := ⟨k - 1, by omega⟩
    rw [spec_DrawNewestOf.l0, if_neg (by omega)]
  | succ d ih =>
    intro x p st hx h0 h1
    obtain ⟨a, b, c, t, p1, q1, e1, hp1⟩ := draw_item l hl p st h0 (by omega)
    obtain ⟨o, p2, q2, e2, hp2⟩ := draw_one l hl p1 q1 20 (by omega) (by omega) (by omega)
    have g : x.length < 3518437208883 := by omega
    obtain ⟨r, hr, hs⟩ := ih (x ++ [if o = true then ⟨a, b, c, t⟩ else ⟨1, b, c, t⟩]) p2 q2 (by rw [List.length_append, List.length_singleton]; omega) (by omega) (by omega)
    refine ⟨r, fun k hk => ?_, hs⟩
    obtain ⟨k, rfl⟩ : ∃ m, k = m + 2 := ⟨k - 2, by omega⟩
    rw [show k + 2 = (k + 1) + 1 from rfl, spec_DrawNewestOf.l0, if_pos (by omega), e1]
    simp only [Option.bind_some]
    rw [e2]
    simp only [Option.bind_some]
    rw [if_pos g, if_pos g, w64 (x := ((d + 1 : Nat) : Int) - 1) (by omega) (by omega), show ((d + 1 : Nat) : Int) - 1 = (d : Int) by omega]
    have := hr (k + 1) (by omega)
    cases o
    · rw [if_neg (by decide)]
      exact this
    · rw [if_pos rfl]
      exact this
theorem draw_newest (l : List Int) (hl : Drawn l) : ∃ r : List S33, (∀ k, 30 < k → spec_DrawNewestOf.f k l = some r) ∧ r.length ≤ 21 := by
  obtain ⟨a, p1, q1, e1, ha, hp1⟩ := draw_pick l hl 0 0 6 (by omega) (by omega) (by omega)
  obtain ⟨o, p2, q2, e2, hp2⟩ := draw_one l hl p1 q1 20 (by omega) (by omega) (by omega)
  obtain ⟨b, p3, q3, e3, hb, hp3⟩ := draw_pick l hl p2 q2 2 (by omega) (by omega) (by omega)
  cases o
  · obtain ⟨r, hr, hs⟩ := draw_newest_l l hl a.toNat [] p2 q2 (by simp; omega) (by omega) (by omega)
    refine ⟨r, fun k hk => ?_, hs⟩
    obtain ⟨k, rfl⟩ : ∃ m, k = m + 1 := ⟨k - 1, by omega⟩
    unfold spec_DrawNewestOf.f
    rw [e1]
    simp only [Option.bind_some]
    rw [e2]
    simp only [Option.bind_some]
    rw [if_neg (by decide), spec_DrawNewestOf.j0]
    have := hr k (by omega)
    rwa [Int.toNat_of_nonneg ha.1] at this
  · obtain ⟨r, hr, hs⟩ := draw_newest_l l hl (20 + b).toNat [] p3 q3 (by simp; omega) (by omega) (by omega)
    refine ⟨r, fun k hk => ?_, hs⟩
    obtain ⟨k, rfl⟩ : ∃ m, k = m + 1 := ⟨k - 1, by omega⟩
    unfold spec_DrawNewestOf.f
    rw [e1]
    simp only [Option.bind_some]
    rw [e2]
    simp only [Option.bind_some]
    rw [if_pos trivial, e3]
    simp only [Option.bind_some]
    rw [w64 (x := 20 + b) (by omega) (by omega), spec_DrawNewestOf.j0]
    have := hr k (by omega)
    rwa [Int.toNat_of_nonneg (by omega)] at this
theorem draw_age (l : List Int) (hl : Drawn l) : ∃ f s a t n, (∀ k, spec_DrawAgeItem.f (k + 1) l = some (f, s, a, t, n)) := by
  obtain ⟨a, b, c, t, p1, q1, e1, hp1⟩ := draw_item l hl 0 0 (by omega) (by omega)
  obtain ⟨n, p2, q2, e2, _, hp2⟩ := draw_among l hl p1 q1 [(-1), 0, 1, 5, 20, 100, 101] (by omega) (by omega) (by simp)
  refine ⟨a, b, c, t, n, fun k => ?_⟩
  unfold spec_DrawAgeItem.f
  rw [e1]
  simp only [Option.bind_some]
  rw [e2]
  rfl
-- the law's parts
theorem age_old (f s a : Int) (t : ByteArray) (n : Int) (hg : gdI f s a t = true) (h0 : 0 ≤ n) (h1 : n ≤ 100) (h : a ≤ n) : ageI f s a t n = (f, s, 0, (⟨#[]⟩ : ByteArray), true) := by
  unfold ageI
  rw [if_pos (show gdI f s a t = true ∧ 0 ≤ n ∧ n ≤ 100 from ⟨hg, h0, h1⟩), if_pos h]
theorem age_less (f s a : Int) (t : ByteArray) (n : Int) (hg : gdI f s a t = true) (h0 : 0 ≤ n) (h1 : n ≤ 100) (h : ¬ a ≤ n) : ageI f s a t n = (f, s, a - n, t, true) := by
  unfold ageI
  rw [if_pos (show gdI f s a t = true ∧ 0 ≤ n ∧ n ≤ 100 from ⟨hg, h0, h1⟩), if_neg h]
theorem age_no (f s a : Int) (t : ByteArray) (n : Int) (h : ¬ (gdI f s a t = true ∧ 0 ≤ n ∧ n ≤ 100)) : ageI f s a t n = (0, 0, 0, (⟨#[]⟩ : ByteArray), false) := by
  unfold ageI
  rw [if_neg h]
theorem age_part (l1 : List Int) (hl : Drawn l1) (k : Nat) (hk : 6 ≤ k) : laws_FnItems.j5 k l1 = some true := by
  obtain ⟨k, rfl⟩ : ∃ m, k = m + 2 := ⟨k - 2, by omega⟩
  obtain ⟨f, s, a, t, n, e⟩ := draw_age l1 hl
  rw [show k + 2 = (k + 1) + 1 from rfl, laws_FnItems.j5, e]
  simp only [Option.bind_some]
  rw [(age_both (k + 1) (by omega) f s a t n).1, (age_both (k + 1) (by omega) f s a t n).2]
  simp only [Option.bind_some, bne_self_eq_false, Bool.false_eq_true, if_false, beq_self_eq_true, Bool.not_true, Bool.or_false]
  rw [laws_FnItems.j6, if_neg (by decide)]
  by_cases h : gdI f s a t = true ∧ 0 ≤ n ∧ n ≤ 100
  · obtain ⟨hg, h0, h1⟩ := h
    have hin := gdI_in f s a t hg
    have hh : wrap64 (Int.tdiv n 2) = n / 2 := by
      rw [Int.tdiv_eq_ediv_of_nonneg h0, w64 (by omega) (by omega)]
    have hd : wrap64 (n - n / 2) = n - n / 2 := w64 (by omega) (by omega)
    have q1 := (age_both k (by omega) f s a t (n / 2)).2
    rw [hh, q1, hd]
    simp only [Option.bind_some]
    by_cases h2 : a ≤ n / 2
    · have hg2 := gdI_old f s a t hg
      have q2 := (age_both k (by omega) f s 0 (⟨#[]⟩ : ByteArray) (n - n / 2)).2
      rw [age_old f s 0 _ (n - n / 2) hg2 (by omega) (by omega) (by omega)] at q2
      rw [age_old f s a t n hg h0 h1 (by omega), age_old f s a t (n / 2) hg (by omega) (by omega) h2]
      simp only [if_true]
      rw [q2, gdI_impl, hg2]
      simp
    · have hg2 := gdI_less f s a (a - n / 2) t hg (by omega) (by omega)
      have q2 := (age_both k (by omega) f s (a - n / 2) t (n - n / 2)).2
      rw [age_less f s a t (n / 2) hg (by omega) (by omega) h2]
      by_cases h3 : a ≤ n
      · rw [age_old f s (a - n / 2) t (n - n / 2) hg2 (by omega) (by omega) (by omega)] at q2
        rw [age_old f s a t n hg h0 h1 h3]
        simp only [if_true]
        rw [q2, gdI_impl, gdI_old f s a t hg]
        simp
      · rw [age_less f s (a - n / 2) t (n - n / 2) hg2 (by omega) (by omega) (by omega), show a - n / 2 - (n - n / 2) = a - n by omega] at q2
        rw [age_less f s a t n hg h0 h1 h3]
        simp only [if_true]
        rw [q2, gdI_impl, gdI_less f s a (a - n) t hg (by omega) (by omega)]
        simp
  · rw [age_no f s a t n h]
    simp
theorem none_better (l1 : List Int) (l : List S33) (x : S33) (hn : l.length ≤ 21) (h : ∀ y ∈ l, (betI y.f0 y.f1 y.f2 y.f3 x.f0 x.f1 x.f2 x.f3).2 = true ∧ (betI y.f0 y.f1 y.f2 y.f3 x.f0 x.f1 x.f2 x.f3).1 ≠ 1) :
    ∀ (d i k : Nat), i + d = l.length → d + 10 < k → laws_FnItems.l0 k l1 l l.length i x.f0 x.f1 x.f2 x.f3 = laws_FnItems.j5 (k - 1 - d) l1
  | 0, i, k, hi, hk => by
    obtain ⟨k, rfl⟩ : ∃ m, k = m + 1 := ⟨k - 1, by omega⟩
    rw [laws_FnItems.l0, if_neg (by omega)]
    rfl
  | d + 1, i, k, hi, hk => by
    obtain ⟨k, rfl⟩ : ∃ m, k = m + 1 := ⟨k - 1, by omega⟩
    have hm : rd_T33 l i ∈ l := by
      rw [rd_T33_at l i (by omega)]
      exact List.getElem_mem _
    obtain ⟨h1, h2⟩ := h _ hm
    rw [laws_FnItems.l0, if_pos (by omega), if_pos (by omega), if_pos (by omega), (bet_both k (by omega) _ _ _ _ _ _ _ _).2]
    simp only [Option.bind_some]
    rw [h1, if_pos rfl, if_neg h2, w64 (by omega) (by omega), show ((i : Int) + 1) = ((i + 1 : Nat) : Int) by omega, none_better l1 l x hn h d (i + 1) k (by omega) (by omega), show k + 1 - 1 - (d + 1) = k - 1 - d by omega]
/-- What is first is in the list, and none there beats it. -/
theorem firstI_is (l : List S33) : ∀ s : List S33, (∀ y ∈ s, y ∈ l) → (firstI l s = (0, 0, 0, (⟨#[]⟩ : ByteArray), false)) ∨ ∃ x ∈ l, firstI l s = (x.f0, x.f1, x.f2, x.f3, true) ∧ ∀ y ∈ l, btr y x ≠ 1
  | [], _ => .inl rfl
  | x :: s, h => by
    unfold firstI
    by_cases e : (l.any fun y => btr y x == 1) = true
    · rw [if_pos e]
      exact firstI_is l s (fun y hy => h y (List.mem_cons_of_mem _ hy))
    · rw [if_neg e]
      refine .inr ⟨x, h x List.mem_cons_self, rfl, fun y hy hb => e ?_⟩
      rw [List.any_eq_true]
      exact ⟨y, hy, by rw [hb]; rfl⟩
theorem okI_gd (x : S33) : okI x = gdI x.f0 x.f1 x.f2 x.f3 := rfl
theorem list_part (l1 : List Int) (hl : Drawn l1) : ∃ K, ∀ k, K ≤ k → laws_FnItems.j2 k l1 = some true := by
  obtain ⟨l, hd, hn⟩ := draw_newest l1 hl
  obtain ⟨K1, h1⟩ := spec_newest l (by omega)
  obtain ⟨K2, h2⟩ := impl_newest l (by omega)
  replace h1 : ∀ k, K1 ≤ k → spec_NewestOf.f k l = some (newestI l) := h1
  replace h2 : ∀ k, K2 ≤ k → impl_NewestOf.f k l = some (newestI l) := h2
  refine ⟨K1 + K2 + 100, fun k hk => ?_⟩
  obtain ⟨k, rfl⟩ : ∃ m, k = m + 2 := ⟨k - 2, by omega⟩
  rw [show k + 2 = (k + 1) + 1 from rfl, laws_FnItems.j2, hd _ (by omega)]
  simp only [Option.bind_some]
  rw [h1 _ (by omega), h2 _ (by omega)]
  simp only [Option.bind_some, bne_self_eq_false, Bool.false_eq_true, if_false, beq_self_eq_true, Bool.not_true, Bool.or_false]
  rw [laws_FnItems.j3, if_neg (by decide)]
  by_cases h : allI l (rd_T33 l 0).f0 = true ∧ l.length ≤ 20
  · have e : newestI l = firstI l l := by
      unfold newestI
      rw [if_pos h]
    rcases firstI_is l l (fun y hy => hy) with hf | ⟨x, hx, hf, hb⟩
    · rw [e, hf, if_neg (by decide)]
      exact age_part l1 hl k (by omega)
    · rw [e, hf, if_pos rfl]
      have ha := h.1
      unfold allI at ha
      rw [List.all_eq_true] at ha
      have hq : ∀ y ∈ l, (betI y.f0 y.f1 y.f2 y.f3 x.f0 x.f1 x.f2 x.f3).2 = true ∧ (betI y.f0 y.f1 y.f2 y.f3 x.f0 x.f1 x.f2 x.f3).1 ≠ 1 := by
        intro y hy
        have hy2 := ha y hy
        have hx2 := ha x hx
        rw [Bool.and_eq_true, beq_iff_eq, okI_gd] at hy2 hx2
        unfold betI
        rw [if_pos ⟨hy2.1, hx2.1, by rw [hy2.2, hx2.2]⟩]
        exact ⟨rfl, hb y hy⟩
      have := none_better l1 l x hn hq l.length 0 k (by omega) (by omega)
      refine Eq.trans this ?_
      exact age_part l1 hl _ (by omega)
  · have e : newestI l = (0, 0, 0, (⟨#[]⟩ : ByteArray), false) := by
      unfold newestI
      rw [if_neg h]
    rw [e, if_neg (by decide)]
    exact age_part l1 hl k (by omega)
theorem FnItems : laws_FnItems.PureS := by
  intro l m ⟨hl, hl2⟩ ⟨hm, hm2⟩
  have u8 (x : Int) (h : (Lit.int .u8 x).wf = true) : 0 ≤ x ∧ x ≤ 255 := by
    simp [Lit.wf, IntKind.min, IntKind.max, IntKind.signed, IntKind.bits] at h
    omega
  have dl : Drawn l := ⟨fun x hx => u8 x (hl2 x hx), by omega⟩
  have dm : Drawn m := ⟨fun x hx => u8 x (hm2 x hx), by omega⟩
  obtain ⟨K, hK⟩ := list_part m dm
  refine ⟨K + 20, ?_⟩
  unfold laws_FnItems.f
  by_cases h0 : wrap64 ((l.length : Int) + (m.length : Int)) > 1048576
  · rw [if_pos h0]
  rw [if_neg h0]
  obtain ⟨f1, s1, a1, t1, f2, s2, a2, t2, e⟩ := draw_better l dl
  rw [e (K + 19)]
  simp only [Option.bind_some]
  rw [(bet_both (K + 20) (by omega) f1 s1 a1 t1 f2 s2 a2 t2).1, (bet_both (K + 20) (by omega) f1 s1 a1 t1 f2 s2 a2 t2).2]
  simp only [Option.bind_some, bne_self_eq_false, Bool.false_eq_true, if_false]
  rw [if_pos trivial, gdI_spec, gdI_impl]
  simp only [Option.bind_some, bne_self_eq_false]
  rw [laws_FnItems.j0, if_neg (by decide)]
  have j1 : laws_FnItems.j1 (K + 19) m false = some true := by
    rw [laws_FnItems.j1, if_neg (by decide)]
    exact hK _ (by omega)
  by_cases h : gdI f1 s1 a1 t1 = true ∧ gdI f2 s2 a2 t2 = true ∧ f1 = f2
  · have hb : betI f1 s1 a1 t1 f2 s2 a2 t2 = (bt2 s1 a1 t1 s2 a2 t2, true) := by
      unfold betI
      rw [if_pos h]
    have hb2 : betI f2 s2 a2 t2 f1 s1 a1 t1 = (bt2 s2 a2 t2 s1 a1 t1, true) := by
      unfold betI
      rw [if_pos ⟨h.2.1, h.1, h.2.2.symm⟩]
    have ht := bt2_turn s1 a1 t1 s2 a2 t2 (gdI_in _ _ _ _ h.1).2 (gdI_in _ _ _ _ h.2.1).2
    rw [hb, if_pos rfl, (bet_both (K + 19) (by omega) f2 s2 a2 t2 f1 s1 a1 t1).2, hb2]
    simp only [Option.bind_some]
    rw [if_pos trivial, ht]
    rcases bt2_range s1 a1 t1 s2 a2 t2 with hr | hr | hr | hr
    · rw [hr]
      simpa using j1
    · rw [hr]
      simpa using j1
    · rw [hr]
      simpa using j1
    · rw [hr]
      simpa using j1
  · have hb : betI f1 s1 a1 t1 f2 s2 a2 t2 = (0, false) := by
      unfold betI
      rw [if_neg h]
    rw [hb, if_neg (by decide)]
    exact hK _ (by omega)

end Go.Proofs.Ytaihdogejmdjnaa.Pure
