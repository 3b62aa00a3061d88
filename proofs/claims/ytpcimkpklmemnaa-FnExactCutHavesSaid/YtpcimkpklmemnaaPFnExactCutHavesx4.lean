-- Written by a program of this project (myprint.py, by way of the kit's printer). Not trusted: Lean checks it.
import Derived.Test.YtpcimkpklmemnaaPFnExactCutHavesx0
import Derived.Test.YtpcimkpklmemnaaPFnExactCutHavesx1
import Derived.Test.YtpcimkpklmemnaaPFnExactCutHavesx2
import Derived.Test.YtpcimkpklmemnaaPFnExactCutHavesx3
namespace Go.Proofs.Ytpcimkpklmemnaa.PFnExactCutHaves
open Go.RowKit Go.Proofs.YtpcimkpklmemnaaW.PrintWords Go.Proofs.YtpcimkpklmemnaaW.PrintLast Go.Proofs.YtpcimkpklmemnaaW.PrintMore
attribute [local go_sem] max2_int min2_int max_two min_two max_three min_three max_four min_four   -- for this text's walks alone
set_option linter.unusedVariables false
set_option linter.unusedSimpArgs false

/-! ### laws_heldHaveS: function 29 -/
def laws_heldHaveS.l0 : Nat → List (S56) → Int → Int → Option (Int)
  | 0, _, _, _ => none
  | k + 1, x0, x1, x5 => if x5 < (x0.length : Int) then (if 0 ≤ x5 then (if ((rd_T56 x0 x5).f0) = x1 then (if ((rd_T56 x0 x5).f1) = (wrap64 (x1 + 1)) then (laws_heldHaveS.l0 k x0 (wrap64 ((wrap64 (x1 + 1)) + 1)) (wrap64 (x5 + 1))) else (some (-1))) else (some (-1))) else (none)) else (some x1)
def laws_heldHaveS.f (k : Nat) (l0 : List (S56)) (a1 : Int) : Option (Int) := laws_heldHaveS.l0 k l0 a1 0
theorem laws_heldHaveS.mono_l : ∀ k, (∀ y0 y1 y2, LeO (laws_heldHaveS.l0 k y0 y1 y2) (laws_heldHaveS.l0 (k + 1) y0 y1 y2))
  | 0 => fun _ _ _ r h => by simp [laws_heldHaveS.l0] at h
  | k + 1 => by
    have ih0 := laws_heldHaveS.mono_l k
    · intro y0 y1 y2
      unfold laws_heldHaveS.l0
      repeat' first
      | (with_reducible exact ih0 _ _ _)
      | (with_reducible exact LeO.refl _)
      | (with_reducible exact LeO.none _)
      | (with_reducible refine LeO.ite ?_ ?_)
      | (with_reducible refine LeO.bind ?_ (fun _ => ?_))
      | exact ih0 _ _ _
      | exact LeO.none _
      | refine LeO.ite ?_ ?_
      | refine LeO.bind ?_ (fun _ => ?_)
theorem laws_heldHaveS.mono : ∀ a0 a1 k, LeO (laws_heldHaveS.f k a0 a1) (laws_heldHaveS.f (k + 1) a0 a1) := by
  intro a0 a1 k
  have ih0 := laws_heldHaveS.mono_l k
  unfold laws_heldHaveS.f
  repeat' first
      | (with_reducible exact ih0 _ _ _)
      | (with_reducible exact LeO.refl _)
      | (with_reducible exact LeO.none _)
      | (with_reducible refine LeO.ite ?_ ?_)
      | (with_reducible refine LeO.bind ?_ (fun _ => ?_))
      | exact ih0 _ _ _
      | exact LeO.none _
      | refine LeO.ite ?_ ?_
      | refine LeO.bind ?_ (fun _ => ?_)
set_option maxHeartbeats 8000000 in
set_option maxRecDepth 100000 in
theorem laws_heldHaveS.calls (k : Nat) (A0 : Option Addr) (c0 : Nat) (l0 : List (S56)) (a1 : Int) (r : Int) (w : World) (hr0 : Kd.C k56 w A0 l0.length l0) (hc0 : l0.length ≤ c0) (h : laws_heldHaveS.f k l0 a1 = some r) :
    Calls Try.prog 29 #[.slice A0 l0.length c0, .int .i64 a1] w fun e w' => e = .returned (.int .i64 r) ∧ Drawn0 w w' := by
  have HR0 := Aside0.mk hr0
  have HC0 := Aside0.mk hc0
  clear hr0 hc0
  have H : (laws_heldHaveS.l0 k l0 a1 0) = some r := h
  clear h
  have H' := Aside0.mk H
  clear H
  go_enter Try.func29, Try.ntmps29
  go_wp2
  go_loopg [1, 5] k (fun kq v1 v5 w' => ∃ (x1_1 : Int) (x5_1 : Int), v1 = .int .i64 x1_1 ∧ v5 = .int .i64 x5_1 ∧ Aside0 (laws_heldHaveS.l0 kq l0 x1_1 x5_1 = some r) ∧ Aside0 (kq ≤ k) ∧ Drawn0 w w')
  case atStart => exact ⟨(a1), (0), (by first | rfl | (simp; done) | (simp [*]; done)), (by first | rfl | (simp; done) | (simp [*]; done)), H', ⟨Nat.le_refl _⟩, by repeat (first | exact Drawn0.refl _ | apply Drawn0.step)⟩
  case round =>
    clear H'
    try clear c2
    try clear p2
    obtain ⟨x1_1, x5_1, rfl, rfl, HA, HK1, ⟨m1, rfl⟩⟩ := hrel
    cases gk with
    | zero => exact absurd HA.out (by simp [laws_heldHaveS.l0])
    | succ k1 =>
      have H := HA.out
      clear HA
      simp only [laws_heldHaveS.l0] at H
      by_cases c3 : x5_1 < (l0.length : Int)
      · rw [if_pos c3] at H
        have c3b0 : decide (x5_1 < (l0.length : Int)) = true := decide_eq_true c3
        clear c3
        by_cases c4 : 0 ≤ x5_1
        · rw [if_pos c4] at H
          have c4b0 : decide (0 ≤ x5_1) = true := decide_eq_true c4
          clear c4
          by_cases c5 : ((rd_T56 l0 x5_1).f0) = x1_1
          · rw [if_pos c5] at H
            have c5b0 : (((rd_T56 l0 x5_1).f0) == x1_1) = true := beq_iff_eq.mpr c5
            have c5b1 : (((rd_T56 l0 x5_1).f0) != x1_1) = false := bne_eq_false_iff_eq.mpr c5
            clear c5
            by_cases c6 : ((rd_T56 l0 x5_1).f1) = (wrap64 (x1_1 + 1))
            · rw [if_pos c6] at H
              have c6b0 : (((rd_T56 l0 x5_1).f1) == (wrap64 (x1_1 + 1))) = true := beq_iff_eq.mpr c6
              have c6b1 : (((rd_T56 l0 x5_1).f1) != (wrap64 (x1_1 + 1))) = false := bne_eq_false_iff_eq.mpr c6
              clear c6
              have H' := Aside0.mk H
              clear H
              have p193 : 0 ≤ (x5_1 : Int) := of_decide_eq_true (by first | (with_reducible assumption) | assumption)
              have q193 : x5_1 < (l0.length : Int) := of_decide_eq_true (by first | (with_reducible assumption) | assumption)
              obtain ⟨ad193, e193, hx193_0, hx193_1⟩ := at_T56 HR0.out x5_1 p193 q193
              cases e193
              replace p193 := eq_true p193
              replace q193 := eq_true q193
              have p194 : 0 ≤ (x5_1 : Int) := of_decide_eq_true (by first | (with_reducible assumption) | assumption)
              have q194 : x5_1 < (l0.length : Int) := of_decide_eq_true (by first | (with_reducible assumption) | assumption)
              obtain ⟨ad194, e194, hx194_0, hx194_1⟩ := at_T56 HR0.out x5_1 p194 q194
              obtain rfl : ad193 = ad194 := (by injection e194)
              replace p194 := eq_true p194
              replace q194 := eq_true q194
              go_wp2
              go_roundg k1
              case measure => have := HK1.out; omega
              case rel => exact ⟨(wrap64 ((wrap64 (x1_1 + 1)) + 1)), (wrap64 (x5_1 + 1)), (by first | rfl | (simp; done) | (simp [*]; done)), (by first | rfl | (simp; done) | (simp [*]; done)), H', ⟨by have := HK1.out; omega⟩, by repeat (first | exact Drawn0.refl _ | apply Drawn0.step)⟩
            · rw [if_neg c6] at H
              have c6b0 : (((rd_T56 l0 x5_1).f1) == (wrap64 (x1_1 + 1))) = false := beq_eq_false_iff_ne.mpr c6
              have c6b1 : (((rd_T56 l0 x5_1).f1) != (wrap64 (x1_1 + 1))) = true := bne_iff_ne.mpr c6
              obtain rfl := Option.some.inj H
              have p193 : 0 ≤ (x5_1 : Int) := of_decide_eq_true (by first | (with_reducible assumption) | assumption)
              have q193 : x5_1 < (l0.length : Int) := of_decide_eq_true (by first | (with_reducible assumption) | assumption)
              obtain ⟨ad193, e193, hx193_0, hx193_1⟩ := at_T56 HR0.out x5_1 p193 q193
              cases e193
              replace p193 := eq_true p193
              replace q193 := eq_true q193
              have p194 : 0 ≤ (x5_1 : Int) := of_decide_eq_true (by first | (with_reducible assumption) | assumption)
              have q194 : x5_1 < (l0.length : Int) := of_decide_eq_true (by first | (with_reducible assumption) | assumption)
              obtain ⟨ad194, e194, hx194_0, hx194_1⟩ := at_T56 HR0.out x5_1 p194 q194
              obtain rfl : ad193 = ad194 := (by injection e194)
              replace p194 := eq_true p194
              replace q194 := eq_true q194
              go_wp2
              go_ret
              exact ⟨by first | rfl | (simp; done) | (simp [*]; done), by repeat (first | exact Drawn0.refl _ | apply Drawn0.step)⟩
          · rw [if_neg c5] at H
            have c5b0 : (((rd_T56 l0 x5_1).f0) == x1_1) = false := beq_eq_false_iff_ne.mpr c5
            have c5b1 : (((rd_T56 l0 x5_1).f0) != x1_1) = true := bne_iff_ne.mpr c5
            obtain rfl := Option.some.inj H
            have p193 : 0 ≤ (x5_1 : Int) := of_decide_eq_true (by first | (with_reducible assumption) | assumption)
            have q193 : x5_1 < (l0.length : Int) := of_decide_eq_true (by first | (with_reducible assumption) | assumption)
            obtain ⟨ad193, e193, hx193_0, hx193_1⟩ := at_T56 HR0.out x5_1 p193 q193
            cases e193
            replace p193 := eq_true p193
            replace q193 := eq_true q193
            go_wp2
            go_ret
            exact ⟨by first | rfl | (simp; done) | (simp [*]; done), by repeat (first | exact Drawn0.refl _ | apply Drawn0.step)⟩
        · rw [if_neg c4] at H
          exact absurd H (by simp)
      · rw [if_neg c3] at H
        have c3b0 : decide (x5_1 < (l0.length : Int)) = false := decide_eq_false c3
        clear c3
        obtain rfl := Option.some.inj H
        go_wp2
        go_ret
        exact ⟨by first | rfl | (simp; done) | (simp [*]; done), by repeat (first | exact Drawn0.refl _ | apply Drawn0.step)⟩

/-! ### laws_heldSummaryS: function 26 -/
def laws_heldSummaryS.l0 : Nat → List (S37) → Int → Int → Option (Int)
  | 0, _, _, _ => none
  | k + 1, x0, x1, x5 => if x5 < (x0.length : Int) then (if 0 ≤ x5 then (if ((rd_T37 x0 x5).f0) = x1 then (if ((rd_T37 x0 x5).f1) = (wrap64 (x1 + 1)) then ((laws_heldHaveS.f k ((rd_T37 x0 x5).f2) (wrap64 ((wrap64 (x1 + 1)) + 1))).bind fun t198 => (if t198 < 0 then (some (-1)) else (laws_heldSummaryS.l0 k x0 t198 (wrap64 (x5 + 1))))) else (some (-1))) else (some (-1))) else (none)) else (some x1)
def laws_heldSummaryS.f (k : Nat) (l0 : List (S37)) (a1 : Int) : Option (Int) := laws_heldSummaryS.l0 k l0 a1 0
theorem laws_heldSummaryS.mono_l : ∀ k, (∀ y0 y1 y2, LeO (laws_heldSummaryS.l0 k y0 y1 y2) (laws_heldSummaryS.l0 (k + 1) y0 y1 y2))
  | 0 => fun _ _ _ r h => by simp [laws_heldSummaryS.l0] at h
  | k + 1 => by
    have ih0 := laws_heldSummaryS.mono_l k
    · intro y0 y1 y2
      unfold laws_heldSummaryS.l0
      repeat' first
      | (with_reducible exact ih0 _ _ _)
      | (with_reducible exact laws_heldHaveS.mono _ _ _)
      | (with_reducible exact LeO.refl _)
      | (with_reducible exact LeO.none _)
      | (with_reducible refine LeO.ite ?_ ?_)
      | (with_reducible refine LeO.bind ?_ (fun _ => ?_))
      | exact ih0 _ _ _
      | exact laws_heldHaveS.mono _ _ _
      | exact LeO.none _
      | refine LeO.ite ?_ ?_
      | refine LeO.bind ?_ (fun _ => ?_)
theorem laws_heldSummaryS.mono : ∀ a0 a1 k, LeO (laws_heldSummaryS.f k a0 a1) (laws_heldSummaryS.f (k + 1) a0 a1) := by
  intro a0 a1 k
  have ih0 := laws_heldSummaryS.mono_l k
  unfold laws_heldSummaryS.f
  repeat' first
      | (with_reducible exact ih0 _ _ _)
      | (with_reducible exact laws_heldHaveS.mono _ _ _)
      | (with_reducible exact LeO.refl _)
      | (with_reducible exact LeO.none _)
      | (with_reducible refine LeO.ite ?_ ?_)
      | (with_reducible refine LeO.bind ?_ (fun _ => ?_))
      | exact ih0 _ _ _
      | exact laws_heldHaveS.mono _ _ _
      | exact LeO.none _
      | refine LeO.ite ?_ ?_
      | refine LeO.bind ?_ (fun _ => ?_)
set_option maxHeartbeats 8000000 in
set_option maxRecDepth 100000 in
theorem laws_heldSummaryS.calls (k : Nat) (A0 : Option Addr) (c0 : Nat) (l0 : List (S37)) (a1 : Int) (r : Int) (w : World) (hr0 : Kd.C k37 w A0 l0.length l0) (hc0 : l0.length ≤ c0) (h : laws_heldSummaryS.f k l0 a1 = some r) :
    Calls Try.prog 26 #[.slice A0 l0.length c0, .int .i64 a1] w fun e w' => e = .returned (.int .i64 r) ∧ Drawn0 w w' := by
  have HR0 := Aside0.mk hr0
  have HC0 := Aside0.mk hc0
  clear hr0 hc0
  have H : (laws_heldSummaryS.l0 k l0 a1 0) = some r := h
  clear h
  have H' := Aside0.mk H
  clear H
  go_enter Try.func26, Try.ntmps26
  go_wp2
  go_loopg [1, 5] k (fun kq v1 v5 w' => ∃ (x1_1 : Int) (x5_1 : Int), v1 = .int .i64 x1_1 ∧ v5 = .int .i64 x5_1 ∧ Aside0 (laws_heldSummaryS.l0 kq l0 x1_1 x5_1 = some r) ∧ Aside0 (kq ≤ k) ∧ Drawn0 w w')
  case atStart => exact ⟨(a1), (0), (by first | rfl | (simp; done) | (simp [*]; done)), (by first | rfl | (simp; done) | (simp [*]; done)), H', ⟨Nat.le_refl _⟩, by repeat (first | exact Drawn0.refl _ | apply Drawn0.step)⟩
  case round =>
    clear H'
    try clear c2
    try clear p2
    obtain ⟨x1_1, x5_1, rfl, rfl, HA, HK1, ⟨m1, rfl⟩⟩ := hrel
    cases gk with
    | zero => exact absurd HA.out (by simp [laws_heldSummaryS.l0])
    | succ k1 =>
      have H := HA.out
      clear HA
      simp only [laws_heldSummaryS.l0] at H
      by_cases c3 : x5_1 < (l0.length : Int)
      · rw [if_pos c3] at H
        have c3b0 : decide (x5_1 < (l0.length : Int)) = true := decide_eq_true c3
        clear c3
        by_cases c4 : 0 ≤ x5_1
        · rw [if_pos c4] at H
          have c4b0 : decide (0 ≤ x5_1) = true := decide_eq_true c4
          clear c4
          by_cases c5 : ((rd_T37 l0 x5_1).f0) = x1_1
          · rw [if_pos c5] at H
            have c5b0 : (((rd_T37 l0 x5_1).f0) == x1_1) = true := beq_iff_eq.mpr c5
            have c5b1 : (((rd_T37 l0 x5_1).f0) != x1_1) = false := bne_eq_false_iff_eq.mpr c5
            clear c5
            by_cases c6 : ((rd_T37 l0 x5_1).f1) = (wrap64 (x1_1 + 1))
            · rw [if_pos c6] at H
              have c6b0 : (((rd_T37 l0 x5_1).f1) == (wrap64 (x1_1 + 1))) = true := beq_iff_eq.mpr c6
              have c6b1 : (((rd_T37 l0 x5_1).f1) != (wrap64 (x1_1 + 1))) = false := bne_eq_false_iff_eq.mpr c6
              clear c6
              replace H := Option.bind_eq_some_iff.mp H
              obtain ⟨t198, A70, H⟩ := H
              replace H : (if t198 < 0 then (some (-1)) else (laws_heldSummaryS.l0 k1 l0 t198 (wrap64 (x5_1 + 1)))) = some r := H
              have A7 := Aside0.mk A70
              clear A70
              by_cases c8 : t198 < 0
              · rw [if_pos c8] at H
                have c8b0 : decide (t198 < 0) = true := decide_eq_true c8
                clear c8
                obtain rfl := Option.some.inj H
                have p195 : 0 ≤ (x5_1 : Int) := of_decide_eq_true (by first | (with_reducible assumption) | assumption)
                have q195 : x5_1 < (l0.length : Int) := of_decide_eq_true (by first | (with_reducible assumption) | assumption)
                obtain ⟨ad195, A195_2, c195_2, e195, hx195_0, hx195_1, hx195_2, hl195_2, hi195_2⟩ := at_T37 HR0.out x5_1 p195 q195
                cases e195
                have HR195_2 := Aside0.mk hi195_2
                have HC195_2 := Aside0.mk hl195_2
                clear hi195_2 hl195_2
                replace p195 := eq_true p195
                replace q195 := eq_true q195
                have p196 : 0 ≤ (x5_1 : Int) := of_decide_eq_true (by first | (with_reducible assumption) | assumption)
                have q196 : x5_1 < (l0.length : Int) := of_decide_eq_true (by first | (with_reducible assumption) | assumption)
                obtain ⟨ad196, A196_2, c196_2, e196, hx196_0, hx196_1, hx196_2, hl196_2, hi196_2⟩ := at_T37 HR0.out x5_1 p196 q196
                obtain rfl : ad195 = ad196 := (by injection e196)
                have HR196_2 := Aside0.mk hi196_2
                have HC196_2 := Aside0.mk hl196_2
                clear hi196_2 hl196_2
                replace p196 := eq_true p196
                replace q196 := eq_true q196
                have ea_ := Option.some.inj (hx195_2.symm.trans hx196_2)
                injection ea_ with ea_ en_ ec_
                subst ea_
                subst ec_
                clear en_
                have p197 : 0 ≤ (x5_1 : Int) := of_decide_eq_true (by first | (with_reducible assumption) | assumption)
                have q197 : x5_1 < (l0.length : Int) := of_decide_eq_true (by first | (with_reducible assumption) | assumption)
                obtain ⟨ad197, A197_2, c197_2, e197, hx197_0, hx197_1, hx197_2, hl197_2, hi197_2⟩ := at_T37 HR0.out x5_1 p197 q197
                obtain rfl : ad195 = ad197 := (by injection e197)
                have HR197_2 := Aside0.mk hi197_2
                have HC197_2 := Aside0.mk hl197_2
                clear hi197_2 hl197_2
                replace p197 := eq_true p197
                replace q197 := eq_true q197
                have ea_ := Option.some.inj (hx195_2.symm.trans hx197_2)
                injection ea_ with ea_ en_ ec_
                subst ea_
                subst ec_
                clear en_
                go_wp2_with (first | ((with_reducible refine gate_callee (f := 29) rfl ?_); refine goesL_ (some 36) rfl rfl Try.func29 (by kernel_rfl) rfl #[.slice A195_2 ((rd_T37 l0 x5_1).f2).length c195_2, .int .i64 (wrap64 ((wrap64 (x1_1 + 1)) + 1))] rfl (by (try simp only [List.map_toArray, List.map_cons, List.map_nil]); first | done | rfl | (simp only [List.length_drop, List.length_take]; rfl)) ?_; (with_reducible refine (laws_heldHaveS.calls k1 _ _ ((rd_T37 l0 x5_1).f2) (wrap64 ((wrap64 (x1_1 + 1)) + 1)) t198 _ ?side1 ?side2 A7.out).mono ?_); (case side1 => repeat (first | exact HR197_2.out | (with_reducible refine Kd.C_alloc ?_ _) | (with_reducible refine Kd.C_drewN ?_ _) | (with_reducible refine Kd.C_drew ?_))); (case side2 => exact HC197_2.out); rintro e w' ⟨rfl, ⟨nd, rfl⟩⟩; refine ⟨_, rfl, ?_⟩))
                go_ret
                exact ⟨by first | rfl | (simp; done) | (simp [*]; done), by repeat (first | exact Drawn0.refl _ | apply Drawn0.step)⟩
              · rw [if_neg c8] at H
                have c8b0 : decide (t198 < 0) = false := decide_eq_false c8
                clear c8
                have H' := Aside0.mk H
                clear H
                have p195 : 0 ≤ (x5_1 : Int) := of_decide_eq_true (by first | (with_reducible assumption) | assumption)
                have q195 : x5_1 < (l0.length : Int) := of_decide_eq_true (by first | (with_reducible assumption) | assumption)
                obtain ⟨ad195, A195_2, c195_2, e195, hx195_0, hx195_1, hx195_2, hl195_2, hi195_2⟩ := at_T37 HR0.out x5_1 p195 q195
                cases e195
                have HR195_2 := Aside0.mk hi195_2
                have HC195_2 := Aside0.mk hl195_2
                clear hi195_2 hl195_2
                replace p195 := eq_true p195
                replace q195 := eq_true q195
                have p196 : 0 ≤ (x5_1 : Int) := of_decide_eq_true (by first | (with_reducible assumption) | assumption)
                have q196 : x5_1 < (l0.length : Int) := of_decide_eq_true (by first | (with_reducible assumption) | assumption)
                obtain ⟨ad196, A196_2, c196_2, e196, hx196_0, hx196_1, hx196_2, hl196_2, hi196_2⟩ := at_T37 HR0.out x5_1 p196 q196
                obtain rfl : ad195 = ad196 := (by injection e196)
                have HR196_2 := Aside0.mk hi196_2
                have HC196_2 := Aside0.mk hl196_2
                clear hi196_2 hl196_2
                replace p196 := eq_true p196
                replace q196 := eq_true q196
                have ea_ := Option.some.inj (hx195_2.symm.trans hx196_2)
                injection ea_ with ea_ en_ ec_
                subst ea_
                subst ec_
                clear en_
                have p197 : 0 ≤ (x5_1 : Int) := of_decide_eq_true (by first | (with_reducible assumption) | assumption)
                have q197 : x5_1 < (l0.length : Int) := of_decide_eq_true (by first | (with_reducible assumption) | assumption)
                obtain ⟨ad197, A197_2, c197_2, e197, hx197_0, hx197_1, hx197_2, hl197_2, hi197_2⟩ := at_T37 HR0.out x5_1 p197 q197
                obtain rfl : ad195 = ad197 := (by injection e197)
                have HR197_2 := Aside0.mk hi197_2
                have HC197_2 := Aside0.mk hl197_2
                clear hi197_2 hl197_2
                replace p197 := eq_true p197
                replace q197 := eq_true q197
                have ea_ := Option.some.inj (hx195_2.symm.trans hx197_2)
                injection ea_ with ea_ en_ ec_
                subst ea_
                subst ec_
                clear en_
                go_wp2_with (first | ((with_reducible refine gate_callee (f := 29) rfl ?_); refine goesL_ (some 36) rfl rfl Try.func29 (by kernel_rfl) rfl #[.slice A195_2 ((rd_T37 l0 x5_1).f2).length c195_2, .int .i64 (wrap64 ((wrap64 (x1_1 + 1)) + 1))] rfl (by (try simp only [List.map_toArray, List.map_cons, List.map_nil]); first | done | rfl | (simp only [List.length_drop, List.length_take]; rfl)) ?_; (with_reducible refine (laws_heldHaveS.calls k1 _ _ ((rd_T37 l0 x5_1).f2) (wrap64 ((wrap64 (x1_1 + 1)) + 1)) t198 _ ?side1 ?side2 A7.out).mono ?_); (case side1 => repeat (first | exact HR197_2.out | (with_reducible refine Kd.C_alloc ?_ _) | (with_reducible refine Kd.C_drewN ?_ _) | (with_reducible refine Kd.C_drew ?_))); (case side2 => exact HC197_2.out); rintro e w' ⟨rfl, ⟨nd, rfl⟩⟩; refine ⟨_, rfl, ?_⟩))
                go_roundg k1
                case measure => have := HK1.out; omega
                case rel => exact ⟨(t198), (wrap64 (x5_1 + 1)), (by first | rfl | (simp; done) | (simp [*]; done)), (by first | rfl | (simp; done) | (simp [*]; done)), H', ⟨by have := HK1.out; omega⟩, by repeat (first | exact Drawn0.refl _ | apply Drawn0.step)⟩
            · rw [if_neg c6] at H
              have c6b0 : (((rd_T37 l0 x5_1).f1) == (wrap64 (x1_1 + 1))) = false := beq_eq_false_iff_ne.mpr c6
              have c6b1 : (((rd_T37 l0 x5_1).f1) != (wrap64 (x1_1 + 1))) = true := bne_iff_ne.mpr c6
              obtain rfl := Option.some.inj H
              have p195 : 0 ≤ (x5_1 : Int) := of_decide_eq_true (by first | (with_reducible assumption) | assumption)
              have q195 : x5_1 < (l0.length : Int) := of_decide_eq_true (by first | (with_reducible assumption) | assumption)
              obtain ⟨ad195, A195_2, c195_2, e195, hx195_0, hx195_1, hx195_2, hl195_2, hi195_2⟩ := at_T37 HR0.out x5_1 p195 q195
              cases e195
              have HR195_2 := Aside0.mk hi195_2
              have HC195_2 := Aside0.mk hl195_2
              clear hi195_2 hl195_2
              replace p195 := eq_true p195
              replace q195 := eq_true q195
              have p196 : 0 ≤ (x5_1 : Int) := of_decide_eq_true (by first | (with_reducible assumption) | assumption)
              have q196 : x5_1 < (l0.length : Int) := of_decide_eq_true (by first | (with_reducible assumption) | assumption)
              obtain ⟨ad196, A196_2, c196_2, e196, hx196_0, hx196_1, hx196_2, hl196_2, hi196_2⟩ := at_T37 HR0.out x5_1 p196 q196
              obtain rfl : ad195 = ad196 := (by injection e196)
              have HR196_2 := Aside0.mk hi196_2
              have HC196_2 := Aside0.mk hl196_2
              clear hi196_2 hl196_2
              replace p196 := eq_true p196
              replace q196 := eq_true q196
              have ea_ := Option.some.inj (hx195_2.symm.trans hx196_2)
              injection ea_ with ea_ en_ ec_
              subst ea_
              subst ec_
              clear en_
              go_wp2
              go_ret
              exact ⟨by first | rfl | (simp; done) | (simp [*]; done), by repeat (first | exact Drawn0.refl _ | apply Drawn0.step)⟩
          · rw [if_neg c5] at H
            have c5b0 : (((rd_T37 l0 x5_1).f0) == x1_1) = false := beq_eq_false_iff_ne.mpr c5
            have c5b1 : (((rd_T37 l0 x5_1).f0) != x1_1) = true := bne_iff_ne.mpr c5
            obtain rfl := Option.some.inj H
            have p195 : 0 ≤ (x5_1 : Int) := of_decide_eq_true (by first | (with_reducible assumption) | assumption)
            have q195 : x5_1 < (l0.length : Int) := of_decide_eq_true (by first | (with_reducible assumption) | assumption)
            obtain ⟨ad195, A195_2, c195_2, e195, hx195_0, hx195_1, hx195_2, hl195_2, hi195_2⟩ := at_T37 HR0.out x5_1 p195 q195
            cases e195
            have HR195_2 := Aside0.mk hi195_2
            have HC195_2 := Aside0.mk hl195_2
            clear hi195_2 hl195_2
            replace p195 := eq_true p195
            replace q195 := eq_true q195
            go_wp2
            go_ret
            exact ⟨by first | rfl | (simp; done) | (simp [*]; done), by repeat (first | exact Drawn0.refl _ | apply Drawn0.step)⟩
        · rw [if_neg c4] at H
          exact absurd H (by simp)
      · rw [if_neg c3] at H
        have c3b0 : decide (x5_1 < (l0.length : Int)) = false := decide_eq_false c3
        clear c3
        obtain rfl := Option.some.inj H
        go_wp2
        go_ret
        exact ⟨by first | rfl | (simp; done) | (simp [*]; done), by repeat (first | exact Drawn0.refl _ | apply Drawn0.step)⟩

/-! ### laws_FnExactCutHaves: function 6 (the way on which all tests hold) -/
def laws_FnExactCutHaves.f (k : Nat) (l0 : List (S60)) (a1 : Int) : Option (Bool) := (laws_szHaveS.f l0 1048576).bind fun s0 => (if s0 < 0 then some true else ((laws_toHaveS.f k l0).bind fun x0 => ((spec_CutHaves.f k x0 a1).bind fun r => ((impl_CutHaves.f k x0 a1).bind fun q => ((laws_eqSummaryS.f k q.1 r.1).bind fun u0 => (if u0 = true then (if q.2 = r.2 then ((laws_eqHaveS.f k x0 x0).bind fun t0 => (if t0 = true then ((laws_markHaveS.f k x0 1).bind fun m0 => (if 0 ≤ m0.1 then ((laws_markSummaryS.f k q.1 1).bind fun n0 => ((laws_heldSummaryS.f k n0.2 1).bind fun p0 => (if p0 = n0.1 then (if 0 ≤ p0 then (some true) else none) else none))) else none)) else none)) else none) else none))))))
set_option maxHeartbeats 8000000 in
set_option maxRecDepth 100000 in
theorem laws_FnExactCutHaves.calls (k : Nat) (A0 : Option Addr) (c0 : Nat) (l0 : List (S60)) (a1 : Int) (r : Bool) (w : World) (hr0 : Kd.C k60 w A0 l0.length l0) (hc0 : l0.length ≤ c0) (h : laws_FnExactCutHaves.f k l0 a1 = some r) :
    Calls Try.prog 6 #[.slice A0 l0.length c0, .int .i64 a1] w fun e w' => e = .returned (.bool r) ∧ Below w.heap.size w w' := by
  have H := h
  clear h
  unfold laws_FnExactCutHaves.f at H
  have HR0 := Aside0.mk hr0
  have HC0 := Aside0.mk hc0
  clear hr0 hc0
  have HB0 := Aside0.mk (Below.refl w.heap.size w)
  go_enter Try.func6, Try.ntmps6
  replace H := Option.bind_eq_some_iff.mp H
  obtain ⟨s0, B0_, H⟩ := H
  have BS0 := Aside0.mk B0_
  clear B0_
  by_cases cs0 : s0 < 0
  · rw [if_pos cs0] at H
    obtain rfl := Option.some.inj H
    have cb0 : decide (s0 < 0) = true := decide_eq_true cs0
    clear cs0
    go_wp2_with fail
    refine (laws_szHaveS.calls _ _ l0 1048576 s0 w (Kd.C_below HR0.out HB0.out) (HC0.out) BS0.out).mono ?_
    rintro e w1_ ⟨rfl, hb0_⟩
    have hb_ := hb0_.below
    clear hb0_
    have HB1 := Aside0.mk (below_step HB0.out hb_)
    have hz1 : w.heap.size ≤ w1_.heap.size := hb_.size
    clear hb_
    go_wp2
    go_ret
    exact ⟨rfl, HB1.out⟩
  rw [if_neg cs0] at H
  have cb0 : decide (s0 < 0) = false := decide_eq_false cs0
  clear cs0
  go_wp2_with fail
  refine (laws_szHaveS.calls _ _ l0 1048576 s0 w (Kd.C_below HR0.out HB0.out) (HC0.out) BS0.out).mono ?_
  rintro e w1_ ⟨rfl, hb0_⟩
  have hb_ := hb0_.below
  clear hb0_
  have HB1 := Aside0.mk (below_step HB0.out hb_)
  have hz1 : w.heap.size ≤ w1_.heap.size := hb_.size
  clear hb_
  replace H := Option.bind_eq_some_iff.mp H
  obtain ⟨x0, B_BT0, H⟩ := H
  have BT0 := Aside0.mk B_BT0
  clear B_BT0
  replace H := Option.bind_eq_some_iff.mp H
  obtain ⟨⟨r0, r1⟩, B_BP, H⟩ := H
  have BP := Aside0.mk B_BP
  clear B_BP
  replace H := Option.bind_eq_some_iff.mp H
  obtain ⟨⟨q0, q1⟩, B_BI, H⟩ := H
  have BI := Aside0.mk B_BI
  clear B_BI
  replace H := Option.bind_eq_some_iff.mp H
  obtain ⟨u0, B_BU0, H⟩ := H
  have BU0 := Aside0.mk B_BU0
  clear B_BU0
  by_cases cu0 : u0 = true
  case neg => rw [if_neg cu0] at H; exact absurd H (by simp)
  rw [if_pos cu0] at H
  subst cu0
  by_cases cq1 : q1 = r1
  case neg => rw [if_neg cq1] at H; exact absurd H (by simp)
  rw [if_pos cq1] at H
  replace cq1 : q1 = r1 := cq1
  subst cq1
  replace H := Option.bind_eq_some_iff.mp H
  obtain ⟨t0, B_BE0, H⟩ := H
  have BE0 := Aside0.mk B_BE0
  clear B_BE0
  by_cases ct0 : t0 = true
  case neg => rw [if_neg ct0] at H; exact absurd H (by simp)
  rw [if_pos ct0] at H
  subst ct0
  replace H := Option.bind_eq_some_iff.mp H
  obtain ⟨⟨m0, y0⟩, B_BM0, H⟩ := H
  have BM0 := Aside0.mk B_BM0
  clear B_BM0
  by_cases cm : 0 ≤ m0
  case neg => rw [if_neg cm] at H; exact absurd H (by simp)
  rw [if_pos cm] at H
  have cmb : decide (m0 < 0) = false := decide_eq_false (by omega)
  clear cm
  replace H := Option.bind_eq_some_iff.mp H
  obtain ⟨⟨n0, z0⟩, B_BN, H⟩ := H
  have BN := Aside0.mk B_BN
  clear B_BN
  replace H := Option.bind_eq_some_iff.mp H
  obtain ⟨p0, B_BH, H⟩ := H
  have BH := Aside0.mk B_BH
  clear B_BH
  by_cases cp : p0 = n0
  case neg => rw [if_neg cp] at H; exact absurd H (by simp)
  rw [if_pos cp] at H
  subst cp
  by_cases cn : 0 ≤ p0
  case neg => rw [if_neg cn] at H; exact absurd H (by simp)
  rw [if_pos cn] at H
  have cnb : decide (p0 < 0) = false := decide_eq_false (by omega)
  clear cn
  obtain rfl := Option.some.inj H
  clear H
  go_wp2_with fail
  refine (laws_toHaveS.calls k _ _ l0 x0 w1_ (Kd.C_below HR0.out HB1.out) (HC0.out) BT0.out).mono ?_
  rintro e w2_ ⟨v2_0, rfl, ho0_, hb_⟩
  have HB2 := Aside0.mk (below_step HB1.out hb_)
  have hz2 : w1_.heap.size ≤ w2_.heap.size := hb_.size
  clear hb_
  have F0_n := Aside0.mk (Kd.R_lower (Kd.R_mono (Kd.R_bound ho0_) (fun k_ hk => (⟨hk.2.1, hk.2.2.1⟩ : w1_.heap.size ≤ k_ ∧ k_ < w2_.heap.size))) (show w.heap.size ≤ w1_.heap.size by omega))
  obtain ⟨A_F0, c_F0, ev_F0⟩ := Kd.R_slice F0_n.out
  subst ev_F0
  clear ho0_
  go_wp2_with fail
  refine (spec_CutHaves.calls k _ _ x0 a1 r0 q1 w2_ ((Kd.R_reads' F0_n.out).2.2) ((Kd.R_reads' F0_n.out).2.1) BP.out).mono ?_
  rintro e w3_ ⟨v3_0, rfl, ho0_, hb_⟩
  have HB3 := Aside0.mk (below_step HB2.out hb_)
  have hz3 : w2_.heap.size ≤ w3_.heap.size := hb_.size
  have F0_3 := Aside0.mk (Kd.R_below F0_n.out hb_)
  clear F0_n
  clear hb_
  have W0_n := Aside0.mk (Kd.S_lower (Kd.S_mono (Kd.S_bound ho0_) (fun k_ hk => (⟨hk.2.1, hk.2.2.1⟩ : w2_.heap.size ≤ k_ ∧ k_ < w3_.heap.size))) (show w.heap.size ≤ w2_.heap.size by omega))
  obtain ⟨A_W0, c_W0, ev_W0⟩ := Kd.S_slice W0_n.out
  subst ev_W0
  clear ho0_
  clear F0_3
  go_wp2_with fail
  refine (laws_toHaveS.calls k _ _ l0 x0 w3_ (Kd.C_below HR0.out HB3.out) (HC0.out) BT0.out).mono ?_
  rintro e w4_ ⟨v4_0, rfl, ho0_, hb_⟩
  have HB4 := Aside0.mk (below_step HB3.out hb_)
  have hz4 : w3_.heap.size ≤ w4_.heap.size := hb_.size
  have W0_4 := Aside0.mk (Kd.S_below W0_n.out hb_)
  clear W0_n
  clear hb_
  have X0_n := Aside0.mk (Kd.R_lower (Kd.R_mono (Kd.R_bound ho0_) (fun k_ hk => (⟨hk.2.1, hk.2.2.1⟩ : w3_.heap.size ≤ k_ ∧ k_ < w4_.heap.size))) (show w.heap.size ≤ w3_.heap.size by omega))
  obtain ⟨A_X0, c_X0, ev_X0⟩ := Kd.R_slice X0_n.out
  subst ev_X0
  clear ho0_
  go_wp2_with fail
  refine (impl_CutHaves.calls k _ _ x0 a1 q0 q1 w4_ ((Kd.R_reads' X0_n.out).2.2) ((Kd.R_reads' X0_n.out).2.1) BI.out).mono ?_
  rintro e w5_ ⟨v5_0, rfl, ho0_, hb_⟩
  have HB5 := Aside0.mk (below_step HB4.out hb_)
  have hz5 : w4_.heap.size ≤ w5_.heap.size := hb_.size
  have W0_5 := Aside0.mk (Kd.S_below W0_4.out hb_)
  clear W0_4
  have X0_5 := Aside0.mk (Kd.R_below X0_n.out hb_)
  clear X0_n
  clear hb_
  have G0_n := Aside0.mk (Kd.S_lower (Kd.S_mono (Kd.S_bound ho0_) (fun k_ hk => (⟨hk.2.1, hk.2.2.1⟩ : w4_.heap.size ≤ k_ ∧ k_ < w5_.heap.size))) (show w.heap.size ≤ w4_.heap.size by omega))
  obtain ⟨A_G0, c_G0, ev_G0⟩ := Kd.S_slice G0_n.out
  subst ev_G0
  clear ho0_
  go_wp2_with fail
  refine (laws_eqSummaryS.calls k _ _ q0 _ _ r0 true w5_ ((Kd.S_reads' G0_n.out).2.2) ((Kd.S_reads' G0_n.out).2.1) ((Kd.S_reads' W0_5.out).2.2) ((Kd.S_reads' W0_5.out).2.1) BU0.out).mono ?_
  rintro e w6_ ⟨rfl, hb0_⟩
  have hb_ := hb0_
  clear hb0_
  have HB6 := Aside0.mk (below_step HB5.out hb_)
  have hz6 : w5_.heap.size ≤ w6_.heap.size := hb_.size
  have W0_6 := Aside0.mk (Kd.S_below W0_5.out hb_)
  clear W0_5
  have X0_6 := Aside0.mk (Kd.R_below X0_5.out hb_)
  clear X0_5
  have G0_6 := Aside0.mk (Kd.S_below G0_n.out hb_)
  clear G0_n
  clear hb_
  go_wp2_with fail
  refine (laws_toHaveS.calls k _ _ l0 x0 w6_ (Kd.C_below HR0.out HB6.out) (HC0.out) BT0.out).mono ?_
  rintro e w7_ ⟨v7_0, rfl, ho0_, hb_⟩
  have HB7 := Aside0.mk (below_step HB6.out hb_)
  have hz7 : w6_.heap.size ≤ w7_.heap.size := hb_.size
  have W0_7 := Aside0.mk (Kd.S_below W0_6.out hb_)
  clear W0_6
  have X0_7 := Aside0.mk (Kd.R_below X0_6.out hb_)
  clear X0_6
  have G0_7 := Aside0.mk (Kd.S_below G0_6.out hb_)
  clear G0_6
  clear hb_
  have Y0_n := Aside0.mk (Kd.R_lower (Kd.R_mono (Kd.R_bound ho0_) (fun k_ hk => (⟨hk.2.1, hk.2.2.1⟩ : w6_.heap.size ≤ k_ ∧ k_ < w7_.heap.size))) (show w.heap.size ≤ w6_.heap.size by omega))
  obtain ⟨A_Y0, c_Y0, ev_Y0⟩ := Kd.R_slice Y0_n.out
  subst ev_Y0
  clear ho0_
  go_wp2_with fail
  refine (laws_eqHaveS.calls k _ _ x0 _ _ x0 true w7_ ((Kd.R_reads' X0_7.out).2.2) ((Kd.R_reads' X0_7.out).2.1) ((Kd.R_reads' Y0_n.out).2.2) ((Kd.R_reads' Y0_n.out).2.1) BE0.out).mono ?_
  rintro e w8_ ⟨rfl, hb0_⟩
  have hb_ := hb0_
  clear hb0_
  have HB8 := Aside0.mk (below_step HB7.out hb_)
  have hz8 : w7_.heap.size ≤ w8_.heap.size := hb_.size
  have W0_8 := Aside0.mk (Kd.S_below W0_7.out hb_)
  clear W0_7
  have X0_8 := Aside0.mk (Kd.R_below X0_7.out hb_)
  clear X0_7
  have G0_8 := Aside0.mk (Kd.S_below G0_7.out hb_)
  clear G0_7
  have Y0_8 := Aside0.mk (Kd.R_below Y0_n.out hb_)
  clear Y0_n
  clear hb_
  clear Y0_8
  go_wp2_with fail
  refine (laws_markHaveS.calls k (fun k_ => w3_.heap.size ≤ k_ ∧ k_ < w4_.heap.size) (.slice A_X0 x0.length c_X0) x0 1 m0 y0 w w8_ HB8.out X0_8.out BM0.out).mono ?_
  rintro e w9_ ⟨rfl, ho_, hb_, hk_⟩
  replace ho_ := Kd.R_mono (Kd.R_tight rfl ho_) (fun k_ hk => X0_8.out.1 k_ hk.symm)
  have HB9 := Aside0.mk hb_
  have hz9 : w8_.heap.size ≤ w9_.heap.size := hk_.1
  clear X0_8
  have W0_9 := Aside0.mk (Kd.S_kept W0_8.out hk_ (fun k_ h1_ h2_ => by omega))
  clear W0_8
  have G0_9 := Aside0.mk (Kd.S_kept G0_8.out hk_ (fun k_ h1_ h2_ => by omega))
  clear G0_8
  have X0_w := Aside0.mk ho_
  clear hb_ hk_ ho_
  have el_X0 : x0.length = y0.length := (Kd.R_reads' X0_w.out).1
  have EL_X0 := Aside0.mk el_X0
  clear el_X0
  clear X0_w
  go_wp2_with fail
  refine (laws_eqSummaryS.calls k _ _ q0 _ _ r0 true w9_ ((Kd.S_reads' G0_9.out).2.2) ((Kd.S_reads' G0_9.out).2.1) ((Kd.S_reads' W0_9.out).2.2) ((Kd.S_reads' W0_9.out).2.1) BU0.out).mono ?_
  rintro e w10_ ⟨rfl, hb0_⟩
  have hb_ := hb0_
  clear hb0_
  have HB10 := Aside0.mk (below_step HB9.out hb_)
  have hz10 : w9_.heap.size ≤ w10_.heap.size := hb_.size
  have W0_10 := Aside0.mk (Kd.S_below W0_9.out hb_)
  clear W0_9
  have G0_10 := Aside0.mk (Kd.S_below G0_9.out hb_)
  clear G0_9
  clear hb_
  go_wp2_with fail
  refine (laws_markSummaryS.calls k (fun k_ => w4_.heap.size ≤ k_ ∧ k_ < w5_.heap.size) (.slice A_G0 q0.length c_G0) q0 1 p0 z0 w w10_ HB10.out G0_10.out BN.out).mono ?_
  rintro e w11_ ⟨rfl, ho_, hb_, hk_⟩
  have HB11 := Aside0.mk hb_
  have hz11 : w10_.heap.size ≤ w11_.heap.size := hk_.1
  clear G0_10
  have W0_11 := Aside0.mk (Kd.S_kept W0_10.out hk_ (fun k_ h1_ h2_ => by omega))
  clear W0_10
  have G0_w := Aside0.mk ho_
  clear hb_ hk_ ho_
  have el_G0 : q0.length = z0.length := (Kd.S_reads' G0_w.out).1
  have EL_G0 := Aside0.mk el_G0
  clear el_G0
  have hx_ := (Kd.S_reads' G0_w.out)
  go_wp2_with fail
  (try rw [EL_G0.out])
  rw [EL_G0.out] at hx_
  refine (laws_heldSummaryS.calls k _ _ z0 1 p0 w11_ hx_.2.2 hx_.2.1 BH.out).mono ?_
  clear hx_
  rintro e w12_ ⟨rfl, hb0_⟩
  have hb_ := hb0_.below
  clear hb0_
  have HB12 := Aside0.mk (below_step HB11.out hb_)
  have hz12 : w11_.heap.size ≤ w12_.heap.size := hb_.size
  have W0_12 := Aside0.mk (Kd.S_below W0_11.out hb_)
  clear W0_11
  have G0_12 := Aside0.mk (Kd.S_below G0_w.out hb_)
  clear G0_w
  clear hb_
  go_wp2_with fail
  refine (laws_toHaveS.calls k _ _ l0 x0 w12_ (Kd.C_below HR0.out HB12.out) (HC0.out) BT0.out).mono ?_
  rintro e w13_ ⟨v13_0, rfl, ho0_, hb_⟩
  have HB13 := Aside0.mk (below_step HB12.out hb_)
  have hz13 : w12_.heap.size ≤ w13_.heap.size := hb_.size
  have W0_13 := Aside0.mk (Kd.S_below W0_12.out hb_)
  clear W0_12
  have G0_13 := Aside0.mk (Kd.S_below G0_12.out hb_)
  clear G0_12
  clear hb_
  have Z0_n := Aside0.mk (Kd.R_lower (Kd.R_mono (Kd.R_bound ho0_) (fun k_ hk => (⟨hk.2.1, hk.2.2.1⟩ : w12_.heap.size ≤ k_ ∧ k_ < w13_.heap.size))) (show w.heap.size ≤ w12_.heap.size by omega))
  obtain ⟨A_Z0, c_Z0, ev_Z0⟩ := Kd.R_slice Z0_n.out
  subst ev_Z0
  clear ho0_
  go_wp2_with fail
  refine (impl_CutHaves.calls k _ _ x0 a1 q0 q1 w13_ ((Kd.R_reads' Z0_n.out).2.2) ((Kd.R_reads' Z0_n.out).2.1) BI.out).mono ?_
  rintro e w14_ ⟨v14_0, rfl, ho0_, hb_⟩
  have HB14 := Aside0.mk (below_step HB13.out hb_)
  have hz14 : w13_.heap.size ≤ w14_.heap.size := hb_.size
  have W0_14 := Aside0.mk (Kd.S_below W0_13.out hb_)
  clear W0_13
  have G0_14 := Aside0.mk (Kd.S_below G0_13.out hb_)
  clear G0_13
  have Z0_14 := Aside0.mk (Kd.R_below Z0_n.out hb_)
  clear Z0_n
  clear hb_
  have H0_n := Aside0.mk (Kd.S_lower (Kd.S_mono (Kd.S_bound ho0_) (fun k_ hk => (⟨hk.2.1, hk.2.2.1⟩ : w13_.heap.size ≤ k_ ∧ k_ < w14_.heap.size))) (show w.heap.size ≤ w13_.heap.size by omega))
  obtain ⟨A_H0, c_H0, ev_H0⟩ := Kd.S_slice H0_n.out
  subst ev_H0
  clear ho0_
  go_wp2_with fail
  refine (laws_eqSummaryS.calls k _ _ q0 _ _ r0 true w14_ ((Kd.S_reads' H0_n.out).2.2) ((Kd.S_reads' H0_n.out).2.1) ((Kd.S_reads' W0_14.out).2.2) ((Kd.S_reads' W0_14.out).2.1) BU0.out).mono ?_
  rintro e w15_ ⟨rfl, hb0_⟩
  have hb_ := hb0_
  clear hb0_
  have HB15 := Aside0.mk (below_step HB14.out hb_)
  have hz15 : w14_.heap.size ≤ w15_.heap.size := hb_.size
  have W0_15 := Aside0.mk (Kd.S_below W0_14.out hb_)
  clear W0_14
  have G0_15 := Aside0.mk (Kd.S_below G0_14.out hb_)
  clear G0_14
  have Z0_15 := Aside0.mk (Kd.R_below Z0_14.out hb_)
  clear Z0_14
  have H0_15 := Aside0.mk (Kd.S_below H0_n.out hb_)
  clear H0_n
  clear hb_
  have hx_ := (Kd.S_reads' G0_15.out)
  go_wp2_with fail
  (try rw [EL_G0.out])
  rw [EL_G0.out] at hx_
  refine (laws_heldSummaryS.calls k _ _ z0 1 p0 w15_ hx_.2.2 hx_.2.1 BH.out).mono ?_
  clear hx_
  rintro e w16_ ⟨rfl, hb0_⟩
  have hb_ := hb0_.below
  clear hb0_
  have HB16 := Aside0.mk (below_step HB15.out hb_)
  have hz16 : w15_.heap.size ≤ w16_.heap.size := hb_.size
  have W0_16 := Aside0.mk (Kd.S_below W0_15.out hb_)
  clear W0_15
  have G0_16 := Aside0.mk (Kd.S_below G0_15.out hb_)
  clear G0_15
  have Z0_16 := Aside0.mk (Kd.R_below Z0_15.out hb_)
  clear Z0_15
  have H0_16 := Aside0.mk (Kd.S_below H0_15.out hb_)
  clear H0_15
  clear hb_
  go_wp2
  go_ret
  exact ⟨rfl, HB16.out⟩

end Go.Proofs.Ytpcimkpklmemnaa.PFnExactCutHaves
