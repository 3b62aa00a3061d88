-- Written by a program of this project (myprint.py, by way of the kit's printer). Not trusted: Lean checks it.
import Derived.Test.YtajfpfmbmkmafaaPFnExactPartsOfx0
import Derived.Test.YtajfpfmbmkmafaaPFnExactPartsOfx1
import Derived.Test.YtajfpfmbmkmafaaPFnExactPartsOfx2
import Derived.Test.YtajfpfmbmkmafaaPFnExactPartsOfx3
namespace Go.Proofs.Ytajfpfmbmkmafaa.PFnExactPartsOf
open Go.RowKit Go.Proofs.YtajfpfmbmkmafaaW.PrintWords Go.Proofs.YtajfpfmbmkmafaaW.PrintLast Go.Proofs.YtajfpfmbmkmafaaW.PrintMore
attribute [local go_sem] max2_int min2_int max_two min_two max_three min_three max_four min_four   -- for this text's walks alone
set_option linter.unusedVariables false
set_option linter.unusedSimpArgs false

/-! ### laws_heldPartS: function 36 -/
def laws_heldPartS.l0 : Nat → List (S38) → Int → Int → Option (Int)
  | 0, _, _, _ => none
  | k + 1, x0, x1, x5 => if x5 < (x0.length : Int) then (if 0 ≤ x5 then (if ((rd_T38 x0 x5).f0) = x1 then ((laws_markText.f k (wrap64 (x1 + 1))).bind fun t167 => (if ((rd_T38 x0 x5).f1).toList = t167.toList then ((laws_heldIntS.f k ((rd_T38 x0 x5).f2) (wrap64 ((wrap64 (x1 + 1)) + 1))).bind fun t169 => (if t169 < 0 then (some (-1)) else (laws_heldPartS.l0 k x0 t169 (wrap64 (x5 + 1))))) else (some (-1)))) else (some (-1))) else (none)) else (some x1)
def laws_heldPartS.f (k : Nat) (l0 : List (S38)) (a1 : Int) : Option (Int) := laws_heldPartS.l0 k l0 a1 0
theorem laws_heldPartS.mono_l : ∀ k, (∀ y0 y1 y2, LeO (laws_heldPartS.l0 k y0 y1 y2) (laws_heldPartS.l0 (k + 1) y0 y1 y2))
  | 0 => fun _ _ _ r h => by simp [laws_heldPartS.l0] at h
  | k + 1 => by
    have ih0 := laws_heldPartS.mono_l k
    · intro y0 y1 y2
      unfold laws_heldPartS.l0
      repeat' first
      | (with_reducible exact ih0 _ _ _)
      | (with_reducible exact laws_heldIntS.mono _ _ _)
      | (with_reducible exact laws_markText.mono _ _)
      | (with_reducible exact LeO.refl _)
      | (with_reducible exact LeO.none _)
      | (with_reducible refine LeO.ite ?_ ?_)
      | (with_reducible refine LeO.bind ?_ (fun _ => ?_))
      | exact ih0 _ _ _
      | exact laws_heldIntS.mono _ _ _
      | exact laws_markText.mono _ _
      | exact LeO.none _
      | refine LeO.ite ?_ ?_
      | refine LeO.bind ?_ (fun _ => ?_)
theorem laws_heldPartS.mono : ∀ a0 a1 k, LeO (laws_heldPartS.f k a0 a1) (laws_heldPartS.f (k + 1) a0 a1) := by
  intro a0 a1 k
  have ih0 := laws_heldPartS.mono_l k
  unfold laws_heldPartS.f
  repeat' first
      | (with_reducible exact ih0 _ _ _)
      | (with_reducible exact laws_heldIntS.mono _ _ _)
      | (with_reducible exact laws_markText.mono _ _)
      | (with_reducible exact LeO.refl _)
      | (with_reducible exact LeO.none _)
      | (with_reducible refine LeO.ite ?_ ?_)
      | (with_reducible refine LeO.bind ?_ (fun _ => ?_))
      | exact ih0 _ _ _
      | exact laws_heldIntS.mono _ _ _
      | exact laws_markText.mono _ _
      | exact LeO.none _
      | refine LeO.ite ?_ ?_
      | refine LeO.bind ?_ (fun _ => ?_)
def laws_heldPartS.T7 : Bool × List (List Nat × List Nat) := (true, [([], []), ([], []), ([0, 1], [0, 1]), ([2], [2]), ([3], [3]), ([], []), ([5], [5]), ([4, 6], [4, 6])])
def laws_heldPartS.B7 : List Nat := [0, 0, 3, 7, 15, 0, 32, 127]
theorem laws_heldPartS.tab7 : rtab .any (opsOf Try.f36 7) = laws_heldPartS.T7 := by kernel_rfl
theorem laws_heldPartS.bits7 : waitsOk laws_heldPartS.T7.2 laws_heldPartS.B7 = true := by kernel_rfl
set_option maxHeartbeats 8000000 in
set_option maxRecDepth 100000 in
theorem laws_heldPartS.calls (k : Nat) (A0 : Option Addr) (c0 : Nat) (l0 : List (S38)) (a1 : Int) (r : Int) (w : World) (hr0 : Kd.C k38 w A0 l0.length l0) (hc0 : l0.length ≤ c0) (h : laws_heldPartS.f k l0 a1 = some r) :
    Calls Try.prog 36 #[.slice A0 l0.length c0, .int .i64 a1] w fun e w' => e = .returned (.int .i64 r) ∧ Below w.heap.size w w' := by
  have HR0 := Aside0.mk hr0
  have HC0 := Aside0.mk hc0
  clear hr0 hc0
  have HB := Aside0.mk (Below.refl w.heap.size w)
  have H : (laws_heldPartS.l0 k l0 a1 0) = some r := h
  clear h
  have H' := Aside0.mk H
  clear H
  go_enter Try.func36, Try.ntmps36
  go_wp2
  go_loopg [1, 5] k (fun kq v1 v5 w' => ∃ (x1_1 : Int) (x5_1 : Int), v1 = .int .i64 x1_1 ∧ v5 = .int .i64 x5_1 ∧ Aside0 (laws_heldPartS.l0 kq l0 x1_1 x5_1 = some r) ∧ Aside0 (kq ≤ k) ∧ Aside0 (Below w.heap.size w w'))
  case atStart => exact ⟨(a1), (0), (by first | rfl | (simp; done) | (simp [*]; done)), (by first | rfl | (simp; done) | (simp [*]; done)), H', ⟨Nat.le_refl _⟩, ⟨by repeat (first | (with_reducible first | exact HB.out | apply below_alloc | apply pw_below_drewN | apply below_drew1) | exact HB.out)⟩⟩
  case round =>
    clear H'
    try clear p2
    obtain ⟨x1_1, x5_1, rfl, rfl, HA, HK1, HB⟩ := hrel
    cases gk with
    | zero => exact absurd HA.out (by simp [laws_heldPartS.l0])
    | succ k1 =>
      have H := HA.out
      clear HA
      simp only [laws_heldPartS.l0] at H
      by_cases c3 : x5_1 < (l0.length : Int)
      · rw [if_pos c3] at H
        have c3b0 : decide (x5_1 < (l0.length : Int)) = true := decide_eq_true c3
        clear c3
        by_cases c4 : 0 ≤ x5_1
        · rw [if_pos c4] at H
          have c4b0 : decide (0 ≤ x5_1) = true := decide_eq_true c4
          clear c4
          by_cases c5 : ((rd_T38 l0 x5_1).f0) = x1_1
          · rw [if_pos c5] at H
            have c5b0 : (((rd_T38 l0 x5_1).f0) == x1_1) = true := beq_iff_eq.mpr c5
            have c5b1 : (((rd_T38 l0 x5_1).f0) != x1_1) = false := bne_eq_false_iff_eq.mpr c5
            clear c5
            replace H := Option.bind_eq_some_iff.mp H
            obtain ⟨t167, A60, H⟩ := H
            replace H : (if ((rd_T38 l0 x5_1).f1).toList = t167.toList then ((laws_heldIntS.f k1 ((rd_T38 l0 x5_1).f2) (wrap64 ((wrap64 (x1_1 + 1)) + 1))).bind fun t169 => (if t169 < 0 then (some (-1)) else (laws_heldPartS.l0 k1 l0 t169 (wrap64 (x5_1 + 1))))) else (some (-1))) = some r := H
            have A6 := Aside0.mk A60
            clear A60
            by_cases c7 : ((rd_T38 l0 x5_1).f1).toList = t167.toList
            · rw [if_pos c7] at H
              have c7b0 : (((rd_T38 l0 x5_1).f1).toList == t167.toList) = true := beq_iff_eq.mpr c7
              have c7b1 : (((rd_T38 l0 x5_1).f1).toList != t167.toList) = false := bne_eq_false_iff_eq.mpr c7
              clear c7
              replace H := Option.bind_eq_some_iff.mp H
              obtain ⟨t169, A80, H⟩ := H
              replace H : (if t169 < 0 then (some (-1)) else (laws_heldPartS.l0 k1 l0 t169 (wrap64 (x5_1 + 1)))) = some r := H
              have A8 := Aside0.mk A80
              clear A80
              by_cases c9 : t169 < 0
              · rw [if_pos c9] at H
                have c9b0 : decide (t169 < 0) = true := decide_eq_true c9
                clear c9
                obtain rfl := Option.some.inj H
                have p165 : 0 ≤ (x5_1 : Int) := of_decide_eq_true (by first | (with_reducible assumption) | assumption)
                have q165 : x5_1 < (l0.length : Int) := of_decide_eq_true (by first | (with_reducible assumption) | assumption)
                obtain ⟨ad165, A165_2, c165_2, e165, hx165_0, hx165_1, hx165_2, hl165_2, hi165_2⟩ := at_T38 HR0.out x5_1 p165 q165
                cases e165
                replace hx165_0 := (HB.out.cell (World.block_lt_of_cell? w _ hx165_0)).trans hx165_0
                replace hx165_1 := (HB.out.cell (World.block_lt_of_cell? w _ hx165_1)).trans hx165_1
                replace hx165_2 := (HB.out.cell (World.block_lt_of_cell? w _ hx165_2)).trans hx165_2
                have HR165_2 := Aside0.mk hi165_2
                have HC165_2 := Aside0.mk hl165_2
                clear hi165_2 hl165_2
                replace p165 := eq_true p165
                replace q165 := eq_true q165
                try go_wp2
                have n0_ := Aside0.mk (below_drew1 HB.out)
                clear HB
                have HB := n0_
                clear n0_
                have p166 : 0 ≤ (x5_1 : Int) := of_decide_eq_true (by first | (with_reducible assumption) | assumption)
                have q166 : x5_1 < (l0.length : Int) := of_decide_eq_true (by first | (with_reducible assumption) | assumption)
                obtain ⟨ad166, A166_2, c166_2, e166, hx166_0, hx166_1, hx166_2, hl166_2, hi166_2⟩ := at_T38 HR0.out x5_1 p166 q166
                have hw166_2 := hx166_2
                have hw166_1 := hx166_1
                have hw166_0 := hx166_0
                obtain rfl : ad165 = ad166 := (by injection e166)
                replace hx166_0 := (HB.out.cell (World.block_lt_of_cell? w _ hx166_0)).trans hx166_0
                replace hx166_1 := (HB.out.cell (World.block_lt_of_cell? w _ hx166_1)).trans hx166_1
                replace hx166_2 := (HB.out.cell (World.block_lt_of_cell? w _ hx166_2)).trans hx166_2
                have HR166_2 := Aside0.mk hi166_2
                have HC166_2 := Aside0.mk hl166_2
                clear hi166_2 hl166_2
                (try (have hs_ := Option.some.inj (hx166_2.symm.trans hx165_2); injection hs_ with hs1_ hs2_ hs3_; subst hs1_; subst hs3_))
                (try (have hs_ := Option.some.inj (hx166_2.symm.trans (by first | exact hHeld.2.2.1 | exact hHeld.2.2 | exact hHeld.2.2.2.1 | exact hHeld.2.2.2 | exact hHeld.2.2.1 | exact hHeld.2.2 | exact hHeld.2.1 | exact hHeld.2 | exact hHeld.1 | exact hHeld)); injection hs_ with hs1_ hs2_ hs3_; subst hs1_; subst hs3_))
                replace p166 := eq_true p166
                replace q166 := eq_true q166
                refine start_ (n := 8) (S := fun w' => w'.cell? (ad165.add ((x5_1).toNat * 3)) = some (.int .i64 ((rd_T38 l0 x5_1).f0)) ∧ w'.cell? ⟨(ad165.add ((x5_1).toNat * 3)).block, (ad165.add ((x5_1).toNat * 3)).off + 1, none⟩ = some (.string ((rd_T38 l0 x5_1).f1)) ∧ w'.cell? ⟨(ad165.add ((x5_1).toNat * 3)).block, (ad165.add ((x5_1).toNat * 3)).off + 2, none⟩ = some (.slice A166_2 ((rd_T38 l0 x5_1).f2).length c166_2)) (ds := []) #[false, false, false, false, false, false, false, false] (by kernel_rfl) rfl rfl ⟨((HB.out.cell (World.block_lt_of_cell? w _ hw166_0)).trans hw166_0), ((HB.out.cell (World.block_lt_of_cell? w _ hw166_1)).trans hw166_1), ((HB.out.cell (World.block_lt_of_cell? w _ hw166_2)).trans hw166_2)⟩ (fun hHeld => ?_); refine with_tabW laws_heldPartS.tab7 laws_heldPartS.bits7 (fun HT_ HW_ => ?_)
                generalize wr.drew = w10 at HB HR166_2 hx166_0 hx166_1 hx166_2 hHeld ⊢
                refine pure_ (i := 0) (N := some 21) (v := ?_) (a' := ?_) #[true, false, false, false, false, false, false, false] rfl rfl (any_of HT_.out (by kernel_rfl)) (fun _ _ _ h => h) (Or.inl ⟨by rfl, ?_⟩) ?_ ?_
                rotate_left
                · intro w'
                  go_simp
                  with_reducible rfl
                rotate_left
                · simp only [Act.put, List.setIfInBounds_toArray, List.set_cons_zero, List.set_cons_succ, i64_w, i32_w]
                  rfl
                refine pure_ (i := 1) (N := some 22) (v := ?_) (a' := ?_) #[true, true, false, false, false, false, false, false] rfl rfl (any_of HT_.out (by kernel_rfl)) (fun _ _ _ h => h) (Or.inl ⟨by rfl, ?_⟩) ?_ ?_
                rotate_left
                · intro w'
                  go_simp
                  with_reducible rfl
                rotate_left
                · simp only [Act.put, List.setIfInBounds_toArray, List.set_cons_zero, List.set_cons_succ, i64_w, i32_w]
                  rfl
                refine pure_ (i := 2) (N := some 23) (v := ?_) (a' := ?_) #[true, true, true, false, false, false, false, false] rfl rfl (any_of HT_.out (by kernel_rfl)) (fun _ _ _ h => h) (Or.inl ⟨by rfl, ?_⟩) ?_ ?_
                rotate_left
                · intro w'
                  go_simp
                  with_reducible rfl
                rotate_left
                · simp only [Act.put, List.setIfInBounds_toArray, List.set_cons_zero, List.set_cons_succ, i64_w, i32_w]
                  rfl
                refine pure_ (i := 3) (N := some 24) (v := ?_) (a' := ?_) #[true, true, true, true, false, false, false, false] rfl rfl (any_of HT_.out (by kernel_rfl)) (fun _ _ _ h => h) (Or.inl ⟨by rfl, ?_⟩) ?_ ?_
                rotate_left
                · intro w'
                  go_simp
                  with_reducible rfl
                rotate_left
                · simp only [Act.put, List.setIfInBounds_toArray, List.set_cons_zero, List.set_cons_succ, i64_w, i32_w]
                  rfl
                refine pure_ (i := 5) (N := some 26) (v := ?_) (a' := ?_) #[true, true, true, true, false, true, false, false] rfl rfl (any_of HT_.out (by kernel_rfl)) (fun _ _ _ h => h) (Or.inl ⟨by rfl, ?_⟩) ?_ ?_
                rotate_left
                · intro w'
                  go_simp
                  with_reducible rfl
                rotate_left
                · simp only [Act.put, List.setIfInBounds_toArray, List.set_cons_zero, List.set_cons_succ, i64_w, i32_w]
                  rfl
                refine take_ (i := 4) (N := some 25) (v := ?_) (a' := ?_) #[true, true, true, true, true, true, false, false] rfl rfl (take_ofW HT_.out HW_.out (by kernel_rfl)) (fun _ _ _ h => h) (Or.inl ⟨by rfl, ?_⟩) hHeld ?_ ?_
                rotate_left
                · rintro w' ⟨s0, s1, s2⟩
                  go_simp
                  with_reducible rfl
                rotate_left
                · simp only [Act.put, List.setIfInBounds_toArray, List.set_cons_zero, List.set_cons_succ, i64_w, i32_w]
                  rfl
                refine one_ (i := 6) (N := some 27) #[true, true, true, true, true, true, true, false] rfl rfl (one_of HT_.out (by kernel_rfl)) (by decide) (fun K hK => ?_)
                refine goes_ Try.func64 (by kernel_rfl) rfl #[.int .i64 (wrap64 (x1_1 + 1))] (by rfl) rfl rfl (by (try simp only [List.map_toArray, List.map_cons, List.map_nil]); first | done | rfl | (simp only [List.length_drop, List.length_take]; rfl)) ?_
                with_reducible refine (laws_markText.calls k1 (wrap64 (x1_1 + 1)) t167 _ A6.out).mono ?_
                rintro e w11 ⟨rfl, hb⟩
                refine ⟨_, rfl, ?_⟩
                have n0_ := Aside0.mk (below_step (by repeat (first | (with_reducible first | exact HB.out | apply below_alloc | apply pw_below_drewN | apply below_drew1) | exact HB.out)) hb)
                clear HB
                have HB := n0_
                clear n0_
                (try clear hb)
                (try clear hb2)
                (try clear hk)
                (try clear hi)
                refine hK.out _ _ ⟨((HB.out.cell (World.block_lt_of_cell? w _ hw166_0)).trans hw166_0), ((HB.out.cell (World.block_lt_of_cell? w _ hw166_1)).trans hw166_1), ((HB.out.cell (World.block_lt_of_cell? w _ hw166_2)).trans hw166_2)⟩ (fun hHeld => ?_)
                clear hK K
                refine norm_ (a' := ?_) ?_ ?_
                rotate_left
                · show Act.put _ (some 27) _ = _
                  simp only [Act.put, List.setIfInBounds_toArray, List.set_cons_zero, List.set_cons_succ, i64_w, i32_w]
                  rfl
                refine pure_ (i := 7) (N := some 28) (v := ?_) (a' := ?_) #[true, true, true, true, true, true, true, true] rfl rfl (any_of HT_.out (by kernel_rfl)) (fun _ _ _ h => h) (Or.inl ⟨by rfl, ?_⟩) ?_ ?_
                rotate_left
                · intro w'
                  go_simp
                  with_reducible rfl
                rotate_left
                · simp only [Act.put, List.setIfInBounds_toArray, List.set_cons_zero, List.set_cons_succ, i64_w, i32_w]
                  rfl
                refine done_ (done_of HT_.out (by kernel_rfl)) ?_
                have p168 : 0 ≤ (x5_1 : Int) := of_decide_eq_true (by first | (with_reducible assumption) | assumption)
                have q168 : x5_1 < (l0.length : Int) := of_decide_eq_true (by first | (with_reducible assumption) | assumption)
                obtain ⟨ad168, A168_2, c168_2, e168, hx168_0, hx168_1, hx168_2, hl168_2, hi168_2⟩ := at_T38 HR0.out x5_1 p168 q168
                obtain rfl : ad165 = ad168 := (by injection e168)
                replace hx168_0 := (HB.out.cell (World.block_lt_of_cell? w _ hx168_0)).trans hx168_0
                replace hx168_1 := (HB.out.cell (World.block_lt_of_cell? w _ hx168_1)).trans hx168_1
                replace hx168_2 := (HB.out.cell (World.block_lt_of_cell? w _ hx168_2)).trans hx168_2
                have HR168_2 := Aside0.mk hi168_2
                have HC168_2 := Aside0.mk hl168_2
                clear hi168_2 hl168_2
                (try (have hs_ := Option.some.inj (hx168_2.symm.trans hx165_2); injection hs_ with hs1_ hs2_ hs3_; subst hs1_; subst hs3_))
                (try (have hs_ := Option.some.inj (hx168_2.symm.trans hx166_2); injection hs_ with hs1_ hs2_ hs3_; subst hs1_; subst hs3_))
                (try (have hs_ := Option.some.inj (hx168_2.symm.trans (by first | exact hHeld.2.2.1 | exact hHeld.2.2 | exact hHeld.2.2.2.1 | exact hHeld.2.2.2 | exact hHeld.2.2.1 | exact hHeld.2.2 | exact hHeld.2.1 | exact hHeld.2 | exact hHeld.1 | exact hHeld)); injection hs_ with hs1_ hs2_ hs3_; subst hs1_; subst hs3_))
                replace p168 := eq_true p168
                replace q168 := eq_true q168
                try go_wp2_with (first | ((with_reducible refine gate_callee (f := 19) rfl ?_); refine goesL_ (some 37) rfl rfl Try.func19 (by kernel_rfl) rfl #[.slice A168_2 ((rd_T38 l0 x5_1).f2).length c168_2, .int .i64 (wrap64 ((wrap64 (x1_1 + 1)) + 1))] rfl (by (try simp only [List.map_toArray, List.map_cons, List.map_nil]); first | done | rfl | (simp only [List.length_drop, List.length_take]; rfl)) ?_; (with_reducible refine (laws_heldIntS.calls k1 _ _ ((rd_T38 l0 x5_1).f2) (wrap64 ((wrap64 (x1_1 + 1)) + 1)) t169 _ ?side1 ?side2 A8.out).mono ?_); (case side1 => repeat (first | exact (Kd.C_below HR168_2.out HB.out) | (with_reducible refine Kd.C_alloc ?_ _) | (with_reducible refine Kd.C_drewN ?_ _) | (with_reducible refine Kd.C_drew ?_))); (case side2 => exact HC168_2.out); rintro e w' ⟨rfl, ⟨nd, rfl⟩⟩; refine ⟨_, rfl, ?_⟩))
                go_ret
                exact ⟨by first | rfl | (simp [errW_none, errW_some] <;> rfl) | (simp [*, errW_none, errW_some] <;> rfl), by repeat (first | (with_reducible first | exact HB.out | apply below_alloc | apply pw_below_drewN | apply below_drew1) | exact HB.out)⟩
              · rw [if_neg c9] at H
                have c9b0 : decide (t169 < 0) = false := decide_eq_false c9
                clear c9
                have H' := Aside0.mk H
                clear H
                have p165 : 0 ≤ (x5_1 : Int) := of_decide_eq_true (by first | (with_reducible assumption) | assumption)
                have q165 : x5_1 < (l0.length : Int) := of_decide_eq_true (by first | (with_reducible assumption) | assumption)
                obtain ⟨ad165, A165_2, c165_2, e165, hx165_0, hx165_1, hx165_2, hl165_2, hi165_2⟩ := at_T38 HR0.out x5_1 p165 q165
                cases e165
                replace hx165_0 := (HB.out.cell (World.block_lt_of_cell? w _ hx165_0)).trans hx165_0
                replace hx165_1 := (HB.out.cell (World.block_lt_of_cell? w _ hx165_1)).trans hx165_1
                replace hx165_2 := (HB.out.cell (World.block_lt_of_cell? w _ hx165_2)).trans hx165_2
                have HR165_2 := Aside0.mk hi165_2
                have HC165_2 := Aside0.mk hl165_2
                clear hi165_2 hl165_2
                replace p165 := eq_true p165
                replace q165 := eq_true q165
                try go_wp2
                have n0_ := Aside0.mk (below_drew1 HB.out)
                clear HB
                have HB := n0_
                clear n0_
                have p166 : 0 ≤ (x5_1 : Int) := of_decide_eq_true (by first | (with_reducible assumption) | assumption)
                have q166 : x5_1 < (l0.length : Int) := of_decide_eq_true (by first | (with_reducible assumption) | assumption)
                obtain ⟨ad166, A166_2, c166_2, e166, hx166_0, hx166_1, hx166_2, hl166_2, hi166_2⟩ := at_T38 HR0.out x5_1 p166 q166
                have hw166_2 := hx166_2
                have hw166_1 := hx166_1
                have hw166_0 := hx166_0
                obtain rfl : ad165 = ad166 := (by injection e166)
                replace hx166_0 := (HB.out.cell (World.block_lt_of_cell? w _ hx166_0)).trans hx166_0
                replace hx166_1 := (HB.out.cell (World.block_lt_of_cell? w _ hx166_1)).trans hx166_1
                replace hx166_2 := (HB.out.cell (World.block_lt_of_cell? w _ hx166_2)).trans hx166_2
                have HR166_2 := Aside0.mk hi166_2
                have HC166_2 := Aside0.mk hl166_2
                clear hi166_2 hl166_2
                (try (have hs_ := Option.some.inj (hx166_2.symm.trans hx165_2); injection hs_ with hs1_ hs2_ hs3_; subst hs1_; subst hs3_))
                (try (have hs_ := Option.some.inj (hx166_2.symm.trans (by first | exact hHeld.2.2.1 | exact hHeld.2.2 | exact hHeld.2.2.2.1 | exact hHeld.2.2.2 | exact hHeld.2.2.1 | exact hHeld.2.2 | exact hHeld.2.1 | exact hHeld.2 | exact hHeld.1 | exact hHeld)); injection hs_ with hs1_ hs2_ hs3_; subst hs1_; subst hs3_))
                replace p166 := eq_true p166
                replace q166 := eq_true q166
                refine start_ (n := 8) (S := fun w' => w'.cell? (ad165.add ((x5_1).toNat * 3)) = some (.int .i64 ((rd_T38 l0 x5_1).f0)) ∧ w'.cell? ⟨(ad165.add ((x5_1).toNat * 3)).block, (ad165.add ((x5_1).toNat * 3)).off + 1, none⟩ = some (.string ((rd_T38 l0 x5_1).f1)) ∧ w'.cell? ⟨(ad165.add ((x5_1).toNat * 3)).block, (ad165.add ((x5_1).toNat * 3)).off + 2, none⟩ = some (.slice A166_2 ((rd_T38 l0 x5_1).f2).length c166_2)) (ds := []) #[false, false, false, false, false, false, false, false] (by kernel_rfl) rfl rfl ⟨((HB.out.cell (World.block_lt_of_cell? w _ hw166_0)).trans hw166_0), ((HB.out.cell (World.block_lt_of_cell? w _ hw166_1)).trans hw166_1), ((HB.out.cell (World.block_lt_of_cell? w _ hw166_2)).trans hw166_2)⟩ (fun hHeld => ?_); refine with_tabW laws_heldPartS.tab7 laws_heldPartS.bits7 (fun HT_ HW_ => ?_)
                generalize wr.drew = w12 at HB HR166_2 hx166_0 hx166_1 hx166_2 hHeld ⊢
                refine pure_ (i := 0) (N := some 21) (v := ?_) (a' := ?_) #[true, false, false, false, false, false, false, false] rfl rfl (any_of HT_.out (by kernel_rfl)) (fun _ _ _ h => h) (Or.inl ⟨by rfl, ?_⟩) ?_ ?_
                rotate_left
                · intro w'
                  go_simp
                  with_reducible rfl
                rotate_left
                · simp only [Act.put, List.setIfInBounds_toArray, List.set_cons_zero, List.set_cons_succ, i64_w, i32_w]
                  rfl
                refine pure_ (i := 1) (N := some 22) (v := ?_) (a' := ?_) #[true, true, false, false, false, false, false, false] rfl rfl (any_of HT_.out (by kernel_rfl)) (fun _ _ _ h => h) (Or.inl ⟨by rfl, ?_⟩) ?_ ?_
                rotate_left
                · intro w'
                  go_simp
                  with_reducible rfl
                rotate_left
                · simp only [Act.put, List.setIfInBounds_toArray, List.set_cons_zero, List.set_cons_succ, i64_w, i32_w]
                  rfl
                refine pure_ (i := 2) (N := some 23) (v := ?_) (a' := ?_) #[true, true, true, false, false, false, false, false] rfl rfl (any_of HT_.out (by kernel_rfl)) (fun _ _ _ h => h) (Or.inl ⟨by rfl, ?_⟩) ?_ ?_
                rotate_left
                · intro w'
                  go_simp
                  with_reducible rfl
                rotate_left
                · simp only [Act.put, List.setIfInBounds_toArray, List.set_cons_zero, List.set_cons_succ, i64_w, i32_w]
                  rfl
                refine pure_ (i := 3) (N := some 24) (v := ?_) (a' := ?_) #[true, true, true, true, false, false, false, false] rfl rfl (any_of HT_.out (by kernel_rfl)) (fun _ _ _ h => h) (Or.inl ⟨by rfl, ?_⟩) ?_ ?_
                rotate_left
                · intro w'
                  go_simp
                  with_reducible rfl
                rotate_left
                · simp only [Act.put, List.setIfInBounds_toArray, List.set_cons_zero, List.set_cons_succ, i64_w, i32_w]
                  rfl
                refine pure_ (i := 5) (N := some 26) (v := ?_) (a' := ?_) #[true, true, true, true, false, true, false, false] rfl rfl (any_of HT_.out (by kernel_rfl)) (fun _ _ _ h => h) (Or.inl ⟨by rfl, ?_⟩) ?_ ?_
                rotate_left
                · intro w'
                  go_simp
                  with_reducible rfl
                rotate_left
                · simp only [Act.put, List.setIfInBounds_toArray, List.set_cons_zero, List.set_cons_succ, i64_w, i32_w]
                  rfl
                refine take_ (i := 4) (N := some 25) (v := ?_) (a' := ?_) #[true, true, true, true, true, true, false, false] rfl rfl (take_ofW HT_.out HW_.out (by kernel_rfl)) (fun _ _ _ h => h) (Or.inl ⟨by rfl, ?_⟩) hHeld ?_ ?_
                rotate_left
                · rintro w' ⟨s0, s1, s2⟩
                  go_simp
                  with_reducible rfl
                rotate_left
                · simp only [Act.put, List.setIfInBounds_toArray, List.set_cons_zero, List.set_cons_succ, i64_w, i32_w]
                  rfl
                refine one_ (i := 6) (N := some 27) #[true, true, true, true, true, true, true, false] rfl rfl (one_of HT_.out (by kernel_rfl)) (by decide) (fun K hK => ?_)
                refine goes_ Try.func64 (by kernel_rfl) rfl #[.int .i64 (wrap64 (x1_1 + 1))] (by rfl) rfl rfl (by (try simp only [List.map_toArray, List.map_cons, List.map_nil]); first | done | rfl | (simp only [List.length_drop, List.length_take]; rfl)) ?_
                with_reducible refine (laws_markText.calls k1 (wrap64 (x1_1 + 1)) t167 _ A6.out).mono ?_
                rintro e w13 ⟨rfl, hb⟩
                refine ⟨_, rfl, ?_⟩
                have n0_ := Aside0.mk (below_step (by repeat (first | (with_reducible first | exact HB.out | apply below_alloc | apply pw_below_drewN | apply below_drew1) | exact HB.out)) hb)
                clear HB
                have HB := n0_
                clear n0_
                (try clear hb)
                (try clear hb2)
                (try clear hk)
                (try clear hi)
                refine hK.out _ _ ⟨((HB.out.cell (World.block_lt_of_cell? w _ hw166_0)).trans hw166_0), ((HB.out.cell (World.block_lt_of_cell? w _ hw166_1)).trans hw166_1), ((HB.out.cell (World.block_lt_of_cell? w _ hw166_2)).trans hw166_2)⟩ (fun hHeld => ?_)
                clear hK K
                refine norm_ (a' := ?_) ?_ ?_
                rotate_left
                · show Act.put _ (some 27) _ = _
                  simp only [Act.put, List.setIfInBounds_toArray, List.set_cons_zero, List.set_cons_succ, i64_w, i32_w]
                  rfl
                refine pure_ (i := 7) (N := some 28) (v := ?_) (a' := ?_) #[true, true, true, true, true, true, true, true] rfl rfl (any_of HT_.out (by kernel_rfl)) (fun _ _ _ h => h) (Or.inl ⟨by rfl, ?_⟩) ?_ ?_
                rotate_left
                · intro w'
                  go_simp
                  with_reducible rfl
                rotate_left
                · simp only [Act.put, List.setIfInBounds_toArray, List.set_cons_zero, List.set_cons_succ, i64_w, i32_w]
                  rfl
                refine done_ (done_of HT_.out (by kernel_rfl)) ?_
                have p168 : 0 ≤ (x5_1 : Int) := of_decide_eq_true (by first | (with_reducible assumption) | assumption)
                have q168 : x5_1 < (l0.length : Int) := of_decide_eq_true (by first | (with_reducible assumption) | assumption)
                obtain ⟨ad168, A168_2, c168_2, e168, hx168_0, hx168_1, hx168_2, hl168_2, hi168_2⟩ := at_T38 HR0.out x5_1 p168 q168
                obtain rfl : ad165 = ad168 := (by injection e168)
                replace hx168_0 := (HB.out.cell (World.block_lt_of_cell? w _ hx168_0)).trans hx168_0
                replace hx168_1 := (HB.out.cell (World.block_lt_of_cell? w _ hx168_1)).trans hx168_1
                replace hx168_2 := (HB.out.cell (World.block_lt_of_cell? w _ hx168_2)).trans hx168_2
                have HR168_2 := Aside0.mk hi168_2
                have HC168_2 := Aside0.mk hl168_2
                clear hi168_2 hl168_2
                (try (have hs_ := Option.some.inj (hx168_2.symm.trans hx165_2); injection hs_ with hs1_ hs2_ hs3_; subst hs1_; subst hs3_))
                (try (have hs_ := Option.some.inj (hx168_2.symm.trans hx166_2); injection hs_ with hs1_ hs2_ hs3_; subst hs1_; subst hs3_))
                (try (have hs_ := Option.some.inj (hx168_2.symm.trans (by first | exact hHeld.2.2.1 | exact hHeld.2.2 | exact hHeld.2.2.2.1 | exact hHeld.2.2.2 | exact hHeld.2.2.1 | exact hHeld.2.2 | exact hHeld.2.1 | exact hHeld.2 | exact hHeld.1 | exact hHeld)); injection hs_ with hs1_ hs2_ hs3_; subst hs1_; subst hs3_))
                replace p168 := eq_true p168
                replace q168 := eq_true q168
                try go_wp2_with (first | ((with_reducible refine gate_callee (f := 19) rfl ?_); refine goesL_ (some 37) rfl rfl Try.func19 (by kernel_rfl) rfl #[.slice A168_2 ((rd_T38 l0 x5_1).f2).length c168_2, .int .i64 (wrap64 ((wrap64 (x1_1 + 1)) + 1))] rfl (by (try simp only [List.map_toArray, List.map_cons, List.map_nil]); first | done | rfl | (simp only [List.length_drop, List.length_take]; rfl)) ?_; (with_reducible refine (laws_heldIntS.calls k1 _ _ ((rd_T38 l0 x5_1).f2) (wrap64 ((wrap64 (x1_1 + 1)) + 1)) t169 _ ?side1 ?side2 A8.out).mono ?_); (case side1 => repeat (first | exact (Kd.C_below HR168_2.out HB.out) | (with_reducible refine Kd.C_alloc ?_ _) | (with_reducible refine Kd.C_drewN ?_ _) | (with_reducible refine Kd.C_drew ?_))); (case side2 => exact HC168_2.out); rintro e w' ⟨rfl, ⟨nd, rfl⟩⟩; refine ⟨_, rfl, ?_⟩))
                go_roundg k1
                case measure => have := HK1.out; omega
                case rel => exact ⟨(t169), (wrap64 (x5_1 + 1)), (by first | rfl | (simp; done) | (simp [*]; done)), (by first | rfl | (simp; done) | (simp [*]; done)), H', ⟨by have := HK1.out; omega⟩, ⟨by repeat (first | (with_reducible first | exact HB.out | apply below_alloc | apply pw_below_drewN | apply below_drew1) | exact HB.out)⟩⟩
            · rw [if_neg c7] at H
              have c7b0 : (((rd_T38 l0 x5_1).f1).toList == t167.toList) = false := beq_eq_false_iff_ne.mpr c7
              have c7b1 : (((rd_T38 l0 x5_1).f1).toList != t167.toList) = true := bne_iff_ne.mpr c7
              obtain rfl := Option.some.inj H
              have p165 : 0 ≤ (x5_1 : Int) := of_decide_eq_true (by first | (with_reducible assumption) | assumption)
              have q165 : x5_1 < (l0.length : Int) := of_decide_eq_true (by first | (with_reducible assumption) | assumption)
              obtain ⟨ad165, A165_2, c165_2, e165, hx165_0, hx165_1, hx165_2, hl165_2, hi165_2⟩ := at_T38 HR0.out x5_1 p165 q165
              cases e165
              replace hx165_0 := (HB.out.cell (World.block_lt_of_cell? w _ hx165_0)).trans hx165_0
              replace hx165_1 := (HB.out.cell (World.block_lt_of_cell? w _ hx165_1)).trans hx165_1
              replace hx165_2 := (HB.out.cell (World.block_lt_of_cell? w _ hx165_2)).trans hx165_2
              have HR165_2 := Aside0.mk hi165_2
              have HC165_2 := Aside0.mk hl165_2
              clear hi165_2 hl165_2
              replace p165 := eq_true p165
              replace q165 := eq_true q165
              try go_wp2
              have n0_ := Aside0.mk (below_drew1 HB.out)
              clear HB
              have HB := n0_
              clear n0_
              have p166 : 0 ≤ (x5_1 : Int) := of_decide_eq_true (by first | (with_reducible assumption) | assumption)
              have q166 : x5_1 < (l0.length : Int) := of_decide_eq_true (by first | (with_reducible assumption) | assumption)
              obtain ⟨ad166, A166_2, c166_2, e166, hx166_0, hx166_1, hx166_2, hl166_2, hi166_2⟩ := at_T38 HR0.out x5_1 p166 q166
              have hw166_2 := hx166_2
              have hw166_1 := hx166_1
              have hw166_0 := hx166_0
              obtain rfl : ad165 = ad166 := (by injection e166)
              replace hx166_0 := (HB.out.cell (World.block_lt_of_cell? w _ hx166_0)).trans hx166_0
              replace hx166_1 := (HB.out.cell (World.block_lt_of_cell? w _ hx166_1)).trans hx166_1
              replace hx166_2 := (HB.out.cell (World.block_lt_of_cell? w _ hx166_2)).trans hx166_2
              have HR166_2 := Aside0.mk hi166_2
              have HC166_2 := Aside0.mk hl166_2
              clear hi166_2 hl166_2
              (try (have hs_ := Option.some.inj (hx166_2.symm.trans hx165_2); injection hs_ with hs1_ hs2_ hs3_; subst hs1_; subst hs3_))
              (try (have hs_ := Option.some.inj (hx166_2.symm.trans (by first | exact hHeld.2.2.1 | exact hHeld.2.2 | exact hHeld.2.2.2.1 | exact hHeld.2.2.2 | exact hHeld.2.2.1 | exact hHeld.2.2 | exact hHeld.2.1 | exact hHeld.2 | exact hHeld.1 | exact hHeld)); injection hs_ with hs1_ hs2_ hs3_; subst hs1_; subst hs3_))
              replace p166 := eq_true p166
              replace q166 := eq_true q166
              refine start_ (n := 8) (S := fun w' => w'.cell? (ad165.add ((x5_1).toNat * 3)) = some (.int .i64 ((rd_T38 l0 x5_1).f0)) ∧ w'.cell? ⟨(ad165.add ((x5_1).toNat * 3)).block, (ad165.add ((x5_1).toNat * 3)).off + 1, none⟩ = some (.string ((rd_T38 l0 x5_1).f1)) ∧ w'.cell? ⟨(ad165.add ((x5_1).toNat * 3)).block, (ad165.add ((x5_1).toNat * 3)).off + 2, none⟩ = some (.slice A166_2 ((rd_T38 l0 x5_1).f2).length c166_2)) (ds := []) #[false, false, false, false, false, false, false, false] (by kernel_rfl) rfl rfl ⟨((HB.out.cell (World.block_lt_of_cell? w _ hw166_0)).trans hw166_0), ((HB.out.cell (World.block_lt_of_cell? w _ hw166_1)).trans hw166_1), ((HB.out.cell (World.block_lt_of_cell? w _ hw166_2)).trans hw166_2)⟩ (fun hHeld => ?_); refine with_tabW laws_heldPartS.tab7 laws_heldPartS.bits7 (fun HT_ HW_ => ?_)
              generalize wr.drew = w14 at HB HR166_2 hx166_0 hx166_1 hx166_2 hHeld ⊢
              refine pure_ (i := 0) (N := some 21) (v := ?_) (a' := ?_) #[true, false, false, false, false, false, false, false] rfl rfl (any_of HT_.out (by kernel_rfl)) (fun _ _ _ h => h) (Or.inl ⟨by rfl, ?_⟩) ?_ ?_
              rotate_left
              · intro w'
                go_simp
                with_reducible rfl
              rotate_left
              · simp only [Act.put, List.setIfInBounds_toArray, List.set_cons_zero, List.set_cons_succ, i64_w, i32_w]
                rfl
              refine pure_ (i := 1) (N := some 22) (v := ?_) (a' := ?_) #[true, true, false, false, false, false, false, false] rfl rfl (any_of HT_.out (by kernel_rfl)) (fun _ _ _ h => h) (Or.inl ⟨by rfl, ?_⟩) ?_ ?_
              rotate_left
              · intro w'
                go_simp
                with_reducible rfl
              rotate_left
              · simp only [Act.put, List.setIfInBounds_toArray, List.set_cons_zero, List.set_cons_succ, i64_w, i32_w]
                rfl
              refine pure_ (i := 2) (N := some 23) (v := ?_) (a' := ?_) #[true, true, true, false, false, false, false, false] rfl rfl (any_of HT_.out (by kernel_rfl)) (fun _ _ _ h => h) (Or.inl ⟨by rfl, ?_⟩) ?_ ?_
              rotate_left
              · intro w'
                go_simp
                with_reducible rfl
              rotate_left
              · simp only [Act.put, List.setIfInBounds_toArray, List.set_cons_zero, List.set_cons_succ, i64_w, i32_w]
                rfl
              refine pure_ (i := 3) (N := some 24) (v := ?_) (a' := ?_) #[true, true, true, true, false, false, false, false] rfl rfl (any_of HT_.out (by kernel_rfl)) (fun _ _ _ h => h) (Or.inl ⟨by rfl, ?_⟩) ?_ ?_
              rotate_left
              · intro w'
                go_simp
                with_reducible rfl
              rotate_left
              · simp only [Act.put, List.setIfInBounds_toArray, List.set_cons_zero, List.set_cons_succ, i64_w, i32_w]
                rfl
              refine pure_ (i := 5) (N := some 26) (v := ?_) (a' := ?_) #[true, true, true, true, false, true, false, false] rfl rfl (any_of HT_.out (by kernel_rfl)) (fun _ _ _ h => h) (Or.inl ⟨by rfl, ?_⟩) ?_ ?_
              rotate_left
              · intro w'
                go_simp
                with_reducible rfl
              rotate_left
              · simp only [Act.put, List.setIfInBounds_toArray, List.set_cons_zero, List.set_cons_succ, i64_w, i32_w]
                rfl
              refine take_ (i := 4) (N := some 25) (v := ?_) (a' := ?_) #[true, true, true, true, true, true, false, false] rfl rfl (take_ofW HT_.out HW_.out (by kernel_rfl)) (fun _ _ _ h => h) (Or.inl ⟨by rfl, ?_⟩) hHeld ?_ ?_
              rotate_left
              · rintro w' ⟨s0, s1, s2⟩
                go_simp
                with_reducible rfl
              rotate_left
              · simp only [Act.put, List.setIfInBounds_toArray, List.set_cons_zero, List.set_cons_succ, i64_w, i32_w]
                rfl
              refine one_ (i := 6) (N := some 27) #[true, true, true, true, true, true, true, false] rfl rfl (one_of HT_.out (by kernel_rfl)) (by decide) (fun K hK => ?_)
              refine goes_ Try.func64 (by kernel_rfl) rfl #[.int .i64 (wrap64 (x1_1 + 1))] (by rfl) rfl rfl (by (try simp only [List.map_toArray, List.map_cons, List.map_nil]); first | done | rfl | (simp only [List.length_drop, List.length_take]; rfl)) ?_
              with_reducible refine (laws_markText.calls k1 (wrap64 (x1_1 + 1)) t167 _ A6.out).mono ?_
              rintro e w15 ⟨rfl, hb⟩
              refine ⟨_, rfl, ?_⟩
              have n0_ := Aside0.mk (below_step (by repeat (first | (with_reducible first | exact HB.out | apply below_alloc | apply pw_below_drewN | apply below_drew1) | exact HB.out)) hb)
              clear HB
              have HB := n0_
              clear n0_
              (try clear hb)
              (try clear hb2)
              (try clear hk)
              (try clear hi)
              refine hK.out _ _ ⟨((HB.out.cell (World.block_lt_of_cell? w _ hw166_0)).trans hw166_0), ((HB.out.cell (World.block_lt_of_cell? w _ hw166_1)).trans hw166_1), ((HB.out.cell (World.block_lt_of_cell? w _ hw166_2)).trans hw166_2)⟩ (fun hHeld => ?_)
              clear hK K
              refine norm_ (a' := ?_) ?_ ?_
              rotate_left
              · show Act.put _ (some 27) _ = _
                simp only [Act.put, List.setIfInBounds_toArray, List.set_cons_zero, List.set_cons_succ, i64_w, i32_w]
                rfl
              refine pure_ (i := 7) (N := some 28) (v := ?_) (a' := ?_) #[true, true, true, true, true, true, true, true] rfl rfl (any_of HT_.out (by kernel_rfl)) (fun _ _ _ h => h) (Or.inl ⟨by rfl, ?_⟩) ?_ ?_
              rotate_left
              · intro w'
                go_simp
                with_reducible rfl
              rotate_left
              · simp only [Act.put, List.setIfInBounds_toArray, List.set_cons_zero, List.set_cons_succ, i64_w, i32_w]
                rfl
              refine done_ (done_of HT_.out (by kernel_rfl)) ?_
              try go_wp2
              go_ret
              exact ⟨by first | rfl | (simp [errW_none, errW_some] <;> rfl) | (simp [*, errW_none, errW_some] <;> rfl), by repeat (first | (with_reducible first | exact HB.out | apply below_alloc | apply pw_below_drewN | apply below_drew1) | exact HB.out)⟩
          · rw [if_neg c5] at H
            have c5b0 : (((rd_T38 l0 x5_1).f0) == x1_1) = false := beq_eq_false_iff_ne.mpr c5
            have c5b1 : (((rd_T38 l0 x5_1).f0) != x1_1) = true := bne_iff_ne.mpr c5
            obtain rfl := Option.some.inj H
            have p165 : 0 ≤ (x5_1 : Int) := of_decide_eq_true (by first | (with_reducible assumption) | assumption)
            have q165 : x5_1 < (l0.length : Int) := of_decide_eq_true (by first | (with_reducible assumption) | assumption)
            obtain ⟨ad165, A165_2, c165_2, e165, hx165_0, hx165_1, hx165_2, hl165_2, hi165_2⟩ := at_T38 HR0.out x5_1 p165 q165
            cases e165
            replace hx165_0 := (HB.out.cell (World.block_lt_of_cell? w _ hx165_0)).trans hx165_0
            replace hx165_1 := (HB.out.cell (World.block_lt_of_cell? w _ hx165_1)).trans hx165_1
            replace hx165_2 := (HB.out.cell (World.block_lt_of_cell? w _ hx165_2)).trans hx165_2
            have HR165_2 := Aside0.mk hi165_2
            have HC165_2 := Aside0.mk hl165_2
            clear hi165_2 hl165_2
            replace p165 := eq_true p165
            replace q165 := eq_true q165
            go_wp2
            go_ret
            exact ⟨by first | rfl | (simp [errW_none, errW_some] <;> rfl) | (simp [*, errW_none, errW_some] <;> rfl), by repeat (first | (with_reducible first | exact HB.out | apply below_alloc | apply pw_below_drewN | apply below_drew1) | exact HB.out)⟩
        · rw [if_neg c4] at H
          exact absurd H (by simp)
      · rw [if_neg c3] at H
        have c3b0 : decide (x5_1 < (l0.length : Int)) = false := decide_eq_false c3
        clear c3
        obtain rfl := Option.some.inj H
        go_wp2
        go_ret
        exact ⟨by first | rfl | (simp [errW_none, errW_some] <;> rfl) | (simp [*, errW_none, errW_some] <;> rfl), by repeat (first | (with_reducible first | exact HB.out | apply below_alloc | apply pw_below_drewN | apply below_drew1) | exact HB.out)⟩

/-! ### laws_FnExactPartsOf: function 8 (the way on which all tests hold) -/
def laws_FnExactPartsOf.f (k : Nat) (l0 : List (S35)) (a1 : Int) : Option (Bool) := (laws_szPartS.f k l0 1048576).bind fun s0 => (if s0 < 0 then some true else ((laws_toPartS.f k l0).bind fun x0 => ((spec_PartsOf.f k x0 a1).bind fun r => ((impl_PartsOf.f k x0 a1).bind fun q => ((laws_eqPartS.f k q.1 r.1).bind fun u0 => (if u0 = true then (if q.2 = r.2 then ((laws_eqPartS.f k x0 x0).bind fun t0 => (if t0 = true then ((laws_markPartS.f k x0 1).bind fun m0 => (if 0 ≤ m0.1 then ((laws_markPartS.f k q.1 1).bind fun n0 => ((laws_heldPartS.f k n0.2 1).bind fun p0 => (if p0 = n0.1 then (if 0 ≤ p0 then (some true) else none) else none))) else none)) else none)) else none) else none))))))
set_option maxHeartbeats 8000000 in
set_option maxRecDepth 100000 in
theorem laws_FnExactPartsOf.calls (k : Nat) (A0 : Option Addr) (c0 : Nat) (l0 : List (S35)) (a1 : Int) (r : Bool) (w : World) (hr0 : Kd.C k35 w A0 l0.length l0) (hc0 : l0.length ≤ c0) (h : laws_FnExactPartsOf.f k l0 a1 = some r) :
    Calls Try.prog 8 #[.slice A0 l0.length c0, .int .i64 a1] w fun e w' => e = .returned (.bool r) ∧ Below w.heap.size w w' := by
  have H := h
  clear h
  unfold laws_FnExactPartsOf.f at H
  have HR0 := Aside0.mk hr0
  have HC0 := Aside0.mk hc0
  clear hr0 hc0
  have HB0 := Aside0.mk (Below.refl w.heap.size w)
  go_enter Try.func8, Try.ntmps8
  replace H := Option.bind_eq_some_iff.mp H
  obtain ⟨s0, B0_, H⟩ := H
  have BS0 := Aside0.mk B0_
  clear B0_
  by_cases cs0 : s0 < 0
  · rw [if_pos cs0] at H
    obtain rfl := Option.some.inj H
    have cb0 : decide (s0 < 0) = true := decide_eq_true cs0
    clear cs0
    go_wp2_with fail
    refine (laws_szPartS.calls k _ _ l0 1048576 s0 w (Kd.C_below HR0.out HB0.out) (HC0.out) BS0.out).mono ?_
    rintro e w1_ ⟨rfl, hb0_⟩
    have hb_ := hb0_
    clear hb0_
    have HB1 := Aside0.mk (below_step HB0.out hb_)
    have hz1 : w.heap.size ≤ w1_.heap.size := hb_.size
    clear hb_
    go_wp2
    go_ret
    exact ⟨rfl, HB1.out⟩
  rw [if_neg cs0] at H
  have cb0 : decide (s0 < 0) = false := decide_eq_false cs0
  clear cs0
  go_wp2_with fail
  refine (laws_szPartS.calls k _ _ l0 1048576 s0 w (Kd.C_below HR0.out HB0.out) (HC0.out) BS0.out).mono ?_
  rintro e w1_ ⟨rfl, hb0_⟩
  have hb_ := hb0_
  clear hb0_
  have HB1 := Aside0.mk (below_step HB0.out hb_)
  have hz1 : w.heap.size ≤ w1_.heap.size := hb_.size
  clear hb_
  replace H := Option.bind_eq_some_iff.mp H
  obtain ⟨x0, B_BT0, H⟩ := H
  have BT0 := Aside0.mk B_BT0
  clear B_BT0
  replace H := Option.bind_eq_some_iff.mp H
  obtain ⟨⟨r0, r1⟩, B_BP, H⟩ := H
  have BP := Aside0.mk B_BP
  clear B_BP
  replace H := Option.bind_eq_some_iff.mp H
  obtain ⟨⟨q0, q1⟩, B_BI, H⟩ := H
  have BI := Aside0.mk B_BI
  clear B_BI
  replace H := Option.bind_eq_some_iff.mp H
  obtain ⟨u0, B_BU0, H⟩ := H
  have BU0 := Aside0.mk B_BU0
  clear B_BU0
  by_cases cu0 : u0 = true
  case neg => rw [if_neg cu0] at H; exact absurd H (by simp)
  rw [if_pos cu0] at H
  subst cu0
  by_cases cq1 : q1 = r1
  case neg => rw [if_neg cq1] at H; exact absurd H (by simp)
  rw [if_pos cq1] at H
  replace cq1 : q1 = r1 := cq1
  subst cq1
  replace H := Option.bind_eq_some_iff.mp H
  obtain ⟨t0, B_BE0, H⟩ := H
  have BE0 := Aside0.mk B_BE0
  clear B_BE0
  by_cases ct0 : t0 = true
  case neg => rw [if_neg ct0] at H; exact absurd H (by simp)
  rw [if_pos ct0] at H
  subst ct0
  replace H := Option.bind_eq_some_iff.mp H
  obtain ⟨⟨m0, y0⟩, B_BM0, H⟩ := H
  have BM0 := Aside0.mk B_BM0
  clear B_BM0
  by_cases cm : 0 ≤ m0
  case neg => rw [if_neg cm] at H; exact absurd H (by simp)
  rw [if_pos cm] at H
  have cmb : decide (m0 < 0) = false := decide_eq_false (by omega)
  clear cm
  replace H := Option.bind_eq_some_iff.mp H
  obtain ⟨⟨n0, z0⟩, B_BN, H⟩ := H
  have BN := Aside0.mk B_BN
  clear B_BN
  replace H := Option.bind_eq_some_iff.mp H
  obtain ⟨p0, B_BH, H⟩ := H
  have BH := Aside0.mk B_BH
  clear B_BH
  by_cases cp : p0 = n0
  case neg => rw [if_neg cp] at H; exact absurd H (by simp)
  rw [if_pos cp] at H
  subst cp
  by_cases cn : 0 ≤ p0
  case neg => rw [if_neg cn] at H; exact absurd H (by simp)
  rw [if_pos cn] at H
  have cnb : decide (p0 < 0) = false := decide_eq_false (by omega)
  clear cn
  obtain rfl := Option.some.inj H
  clear H
  go_wp2_with fail
  refine (laws_toPartS.calls k _ _ l0 x0 w1_ (Kd.C_below HR0.out HB1.out) (HC0.out) BT0.out).mono ?_
  rintro e w2_ ⟨v2_0, rfl, ho0_, hb_⟩
  have HB2 := Aside0.mk (below_step HB1.out hb_)
  have hz2 : w1_.heap.size ≤ w2_.heap.size := hb_.size
  clear hb_
  have F0_n := Aside0.mk (Kd.S_lower (Kd.S_mono (Kd.S_bound ho0_) (fun k_ hk => (⟨hk.2.1, hk.2.2.1⟩ : w1_.heap.size ≤ k_ ∧ k_ < w2_.heap.size))) (show w.heap.size ≤ w1_.heap.size by omega))
  obtain ⟨A_F0, c_F0, ev_F0⟩ := Kd.S_slice F0_n.out
  subst ev_F0
  clear ho0_
  go_wp2_with fail
  refine (spec_PartsOf.calls k _ _ x0 a1 r0 q1 w2_ ((Kd.S_reads' F0_n.out).2.2) ((Kd.S_reads' F0_n.out).2.1) BP.out).mono ?_
  rintro e w3_ ⟨v3_0, rfl, ho0_, hb_⟩
  have HB3 := Aside0.mk (below_step HB2.out hb_)
  have hz3 : w2_.heap.size ≤ w3_.heap.size := hb_.size
  have F0_3 := Aside0.mk (Kd.S_below F0_n.out hb_)
  clear F0_n
  clear hb_
  have W0_n := Aside0.mk (Kd.S_lower (Kd.S_mono (Kd.S_bound ho0_) (fun k_ hk => (⟨hk.2.1, hk.2.2.1⟩ : w2_.heap.size ≤ k_ ∧ k_ < w3_.heap.size))) (show w.heap.size ≤ w2_.heap.size by omega))
  obtain ⟨A_W0, c_W0, ev_W0⟩ := Kd.S_slice W0_n.out
  subst ev_W0
  clear ho0_
  clear F0_3
  go_wp2_with fail
  refine (laws_toPartS.calls k _ _ l0 x0 w3_ (Kd.C_below HR0.out HB3.out) (HC0.out) BT0.out).mono ?_
  rintro e w4_ ⟨v4_0, rfl, ho0_, hb_⟩
  have HB4 := Aside0.mk (below_step HB3.out hb_)
  have hz4 : w3_.heap.size ≤ w4_.heap.size := hb_.size
  have W0_4 := Aside0.mk (Kd.S_below W0_n.out hb_)
  clear W0_n
  clear hb_
  have X0_n := Aside0.mk (Kd.S_lower (Kd.S_mono (Kd.S_bound ho0_) (fun k_ hk => (⟨hk.2.1, hk.2.2.1⟩ : w3_.heap.size ≤ k_ ∧ k_ < w4_.heap.size))) (show w.heap.size ≤ w3_.heap.size by omega))
  obtain ⟨A_X0, c_X0, ev_X0⟩ := Kd.S_slice X0_n.out
  subst ev_X0
  clear ho0_
  go_wp2_with fail
  refine (impl_PartsOf.calls k _ _ x0 a1 q0 q1 w4_ ((Kd.S_reads' X0_n.out).2.2) ((Kd.S_reads' X0_n.out).2.1) BI.out).mono ?_
  rintro e w5_ ⟨v5_0, rfl, ho0_, hb_⟩
  have HB5 := Aside0.mk (below_step HB4.out hb_)
  have hz5 : w4_.heap.size ≤ w5_.heap.size := hb_.size
  have W0_5 := Aside0.mk (Kd.S_below W0_4.out hb_)
  clear W0_4
  have X0_5 := Aside0.mk (Kd.S_below X0_n.out hb_)
  clear X0_n
  clear hb_
  have G0_n := Aside0.mk (Kd.S_lower (Kd.S_mono (Kd.S_bound ho0_) (fun k_ hk => (⟨hk.2.1, hk.2.2.1⟩ : w4_.heap.size ≤ k_ ∧ k_ < w5_.heap.size))) (show w.heap.size ≤ w4_.heap.size by omega))
  obtain ⟨A_G0, c_G0, ev_G0⟩ := Kd.S_slice G0_n.out
  subst ev_G0
  clear ho0_
  go_wp2_with fail
  refine (laws_eqPartS.calls k _ _ q0 _ _ r0 true w5_ ((Kd.S_reads' G0_n.out).2.2) ((Kd.S_reads' G0_n.out).2.1) ((Kd.S_reads' W0_5.out).2.2) ((Kd.S_reads' W0_5.out).2.1) BU0.out).mono ?_
  rintro e w6_ ⟨rfl, hb0_⟩
  have hb_ := hb0_
  clear hb0_
  have HB6 := Aside0.mk (below_step HB5.out hb_)
  have hz6 : w5_.heap.size ≤ w6_.heap.size := hb_.size
  have W0_6 := Aside0.mk (Kd.S_below W0_5.out hb_)
  clear W0_5
  have X0_6 := Aside0.mk (Kd.S_below X0_5.out hb_)
  clear X0_5
  have G0_6 := Aside0.mk (Kd.S_below G0_n.out hb_)
  clear G0_n
  clear hb_
  go_wp2_with fail
  refine (laws_toPartS.calls k _ _ l0 x0 w6_ (Kd.C_below HR0.out HB6.out) (HC0.out) BT0.out).mono ?_
  rintro e w7_ ⟨v7_0, rfl, ho0_, hb_⟩
  have HB7 := Aside0.mk (below_step HB6.out hb_)
  have hz7 : w6_.heap.size ≤ w7_.heap.size := hb_.size
  have W0_7 := Aside0.mk (Kd.S_below W0_6.out hb_)
  clear W0_6
  have X0_7 := Aside0.mk (Kd.S_below X0_6.out hb_)
  clear X0_6
  have G0_7 := Aside0.mk (Kd.S_below G0_6.out hb_)
  clear G0_6
  clear hb_
  have Y0_n := Aside0.mk (Kd.S_lower (Kd.S_mono (Kd.S_bound ho0_) (fun k_ hk => (⟨hk.2.1, hk.2.2.1⟩ : w6_.heap.size ≤ k_ ∧ k_ < w7_.heap.size))) (show w.heap.size ≤ w6_.heap.size by omega))
  obtain ⟨A_Y0, c_Y0, ev_Y0⟩ := Kd.S_slice Y0_n.out
  subst ev_Y0
  clear ho0_
  go_wp2_with fail
  refine (laws_eqPartS.calls k _ _ x0 _ _ x0 true w7_ ((Kd.S_reads' X0_7.out).2.2) ((Kd.S_reads' X0_7.out).2.1) ((Kd.S_reads' Y0_n.out).2.2) ((Kd.S_reads' Y0_n.out).2.1) BE0.out).mono ?_
  rintro e w8_ ⟨rfl, hb0_⟩
  have hb_ := hb0_
  clear hb0_
  have HB8 := Aside0.mk (below_step HB7.out hb_)
  have hz8 : w7_.heap.size ≤ w8_.heap.size := hb_.size
  have W0_8 := Aside0.mk (Kd.S_below W0_7.out hb_)
  clear W0_7
  have X0_8 := Aside0.mk (Kd.S_below X0_7.out hb_)
  clear X0_7
  have G0_8 := Aside0.mk (Kd.S_below G0_7.out hb_)
  clear G0_7
  have Y0_8 := Aside0.mk (Kd.S_below Y0_n.out hb_)
  clear Y0_n
  clear hb_
  clear Y0_8
  go_wp2_with fail
  refine (laws_markPartS.calls k (fun k_ => w3_.heap.size ≤ k_ ∧ k_ < w4_.heap.size) (.slice A_X0 x0.length c_X0) x0 1 m0 y0 w w8_ HB8.out X0_8.out BM0.out).mono ?_
  rintro e w9_ ⟨rfl, ho_, hb_, hk_⟩
  have HB9 := Aside0.mk hb_
  have hz9 : w8_.heap.size ≤ w9_.heap.size := hk_.1
  clear X0_8
  have W0_9 := Aside0.mk (Kd.S_kept W0_8.out hk_ (fun k_ h1_ h2_ => by omega))
  clear W0_8
  have G0_9 := Aside0.mk (Kd.S_kept G0_8.out hk_ (fun k_ h1_ h2_ => by omega))
  clear G0_8
  have X0_w := Aside0.mk ho_
  clear hb_ hk_ ho_
  have el_X0 : x0.length = y0.length := (Kd.S_reads' X0_w.out).1
  have EL_X0 := Aside0.mk el_X0
  clear el_X0
  clear X0_w
  go_wp2_with fail
  refine (laws_eqPartS.calls k _ _ q0 _ _ r0 true w9_ ((Kd.S_reads' G0_9.out).2.2) ((Kd.S_reads' G0_9.out).2.1) ((Kd.S_reads' W0_9.out).2.2) ((Kd.S_reads' W0_9.out).2.1) BU0.out).mono ?_
  rintro e w10_ ⟨rfl, hb0_⟩
  have hb_ := hb0_
  clear hb0_
  have HB10 := Aside0.mk (below_step HB9.out hb_)
  have hz10 : w9_.heap.size ≤ w10_.heap.size := hb_.size
  have W0_10 := Aside0.mk (Kd.S_below W0_9.out hb_)
  clear W0_9
  have G0_10 := Aside0.mk (Kd.S_below G0_9.out hb_)
  clear G0_9
  clear hb_
  go_wp2_with fail
  refine (laws_markPartS.calls k (fun k_ => w4_.heap.size ≤ k_ ∧ k_ < w5_.heap.size) (.slice A_G0 q0.length c_G0) q0 1 p0 z0 w w10_ HB10.out G0_10.out BN.out).mono ?_
  rintro e w11_ ⟨rfl, ho_, hb_, hk_⟩
  have HB11 := Aside0.mk hb_
  have hz11 : w10_.heap.size ≤ w11_.heap.size := hk_.1
  clear G0_10
  have W0_11 := Aside0.mk (Kd.S_kept W0_10.out hk_ (fun k_ h1_ h2_ => by omega))
  clear W0_10
  have G0_w := Aside0.mk ho_
  clear hb_ hk_ ho_
  have el_G0 : q0.length = z0.length := (Kd.S_reads' G0_w.out).1
  have EL_G0 := Aside0.mk el_G0
  clear el_G0
  have hx_ := (Kd.S_reads' G0_w.out)
  go_wp2_with fail
  (try rw [EL_G0.out])
  rw [EL_G0.out] at hx_
  refine (laws_heldPartS.calls k _ _ z0 1 p0 w11_ hx_.2.2 hx_.2.1 BH.out).mono ?_
  clear hx_
  rintro e w12_ ⟨rfl, hb0_⟩
  have hb_ := hb0_
  clear hb0_
  have HB12 := Aside0.mk (below_step HB11.out hb_)
  have hz12 : w11_.heap.size ≤ w12_.heap.size := hb_.size
  have W0_12 := Aside0.mk (Kd.S_below W0_11.out hb_)
  clear W0_11
  have G0_12 := Aside0.mk (Kd.S_below G0_w.out hb_)
  clear G0_w
  clear hb_
  go_wp2_with fail
  refine (laws_toPartS.calls k _ _ l0 x0 w12_ (Kd.C_below HR0.out HB12.out) (HC0.out) BT0.out).mono ?_
  rintro e w13_ ⟨v13_0, rfl, ho0_, hb_⟩
  have HB13 := Aside0.mk (below_step HB12.out hb_)
  have hz13 : w12_.heap.size ≤ w13_.heap.size := hb_.size
  have W0_13 := Aside0.mk (Kd.S_below W0_12.out hb_)
  clear W0_12
  have G0_13 := Aside0.mk (Kd.S_below G0_12.out hb_)
  clear G0_12
  clear hb_
  have Z0_n := Aside0.mk (Kd.S_lower (Kd.S_mono (Kd.S_bound ho0_) (fun k_ hk => (⟨hk.2.1, hk.2.2.1⟩ : w12_.heap.size ≤ k_ ∧ k_ < w13_.heap.size))) (show w.heap.size ≤ w12_.heap.size by omega))
  obtain ⟨A_Z0, c_Z0, ev_Z0⟩ := Kd.S_slice Z0_n.out
  subst ev_Z0
  clear ho0_
  go_wp2_with fail
  refine (impl_PartsOf.calls k _ _ x0 a1 q0 q1 w13_ ((Kd.S_reads' Z0_n.out).2.2) ((Kd.S_reads' Z0_n.out).2.1) BI.out).mono ?_
  rintro e w14_ ⟨v14_0, rfl, ho0_, hb_⟩
  have HB14 := Aside0.mk (below_step HB13.out hb_)
  have hz14 : w13_.heap.size ≤ w14_.heap.size := hb_.size
  have W0_14 := Aside0.mk (Kd.S_below W0_13.out hb_)
  clear W0_13
  have G0_14 := Aside0.mk (Kd.S_below G0_13.out hb_)
  clear G0_13
  have Z0_14 := Aside0.mk (Kd.S_below Z0_n.out hb_)
  clear Z0_n
  clear hb_
  have H0_n := Aside0.mk (Kd.S_lower (Kd.S_mono (Kd.S_bound ho0_) (fun k_ hk => (⟨hk.2.1, hk.2.2.1⟩ : w13_.heap.size ≤ k_ ∧ k_ < w14_.heap.size))) (show w.heap.size ≤ w13_.heap.size by omega))
  obtain ⟨A_H0, c_H0, ev_H0⟩ := Kd.S_slice H0_n.out
  subst ev_H0
  clear ho0_
  go_wp2_with fail
  refine (laws_eqPartS.calls k _ _ q0 _ _ r0 true w14_ ((Kd.S_reads' H0_n.out).2.2) ((Kd.S_reads' H0_n.out).2.1) ((Kd.S_reads' W0_14.out).2.2) ((Kd.S_reads' W0_14.out).2.1) BU0.out).mono ?_
  rintro e w15_ ⟨rfl, hb0_⟩
  have hb_ := hb0_
  clear hb0_
  have HB15 := Aside0.mk (below_step HB14.out hb_)
  have hz15 : w14_.heap.size ≤ w15_.heap.size := hb_.size
  have W0_15 := Aside0.mk (Kd.S_below W0_14.out hb_)
  clear W0_14
  have G0_15 := Aside0.mk (Kd.S_below G0_14.out hb_)
  clear G0_14
  have Z0_15 := Aside0.mk (Kd.S_below Z0_14.out hb_)
  clear Z0_14
  have H0_15 := Aside0.mk (Kd.S_below H0_n.out hb_)
  clear H0_n
  clear hb_
  have hx_ := (Kd.S_reads' G0_15.out)
  go_wp2_with fail
  (try rw [EL_G0.out])
  rw [EL_G0.out] at hx_
  refine (laws_heldPartS.calls k _ _ z0 1 p0 w15_ hx_.2.2 hx_.2.1 BH.out).mono ?_
  clear hx_
  rintro e w16_ ⟨rfl, hb0_⟩
  have hb_ := hb0_
  clear hb0_
  have HB16 := Aside0.mk (below_step HB15.out hb_)
  have hz16 : w15_.heap.size ≤ w16_.heap.size := hb_.size
  have W0_16 := Aside0.mk (Kd.S_below W0_15.out hb_)
  clear W0_15
  have G0_16 := Aside0.mk (Kd.S_below G0_15.out hb_)
  clear G0_15
  have Z0_16 := Aside0.mk (Kd.S_below Z0_15.out hb_)
  clear Z0_15
  have H0_16 := Aside0.mk (Kd.S_below H0_15.out hb_)
  clear H0_15
  clear hb_
  go_wp2
  go_ret
  exact ⟨rfl, HB16.out⟩

end Go.Proofs.Ytajfpfmbmkmafaa.PFnExactPartsOf
