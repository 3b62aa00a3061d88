-- PRINTED BY print.sh 35421559b90ae4d0a3588c463048766b98c2df88dd9212a6774a882060cdf62d: not written by this session
import Derived.Test.YtaihdogejmdjnaaPFnExactFitsRingx0
import Derived.Test.YtaihdogejmdjnaaPFnExactFitsRingx2
namespace Go.Proofs.Ytaihdogejmdjnaa.PFnExactFitsRing
open Go.RowKit Go.Proofs.YtaihdogejmdjnaaW.PrintWords Go.Proofs.YtaihdogejmdjnaaW.PrintLast Go.Proofs.YtaihdogejmdjnaaW.PrintMore
attribute [local go_sem] max2_int min2_int max_two min_two max_three min_three max_four min_four   -- for this text's walks alone
set_option linter.unusedVariables false
set_option linter.unusedSimpArgs false

/-! ### impl_FitsRing: function 30 -/
mutual
def impl_FitsRing.j0 : Nat → List Int → Bool → Option (Bool × Bool)
  | 0, _, _ => none
  | k + 1, x0, x17 => if x17 = true then (some (false, false)) else (impl_FitsRing.l0 k x0 x0 (x0.length : Int) 0)
def impl_FitsRing.l0 : Nat → List Int → List Int → Int → Int → Option (Bool × Bool)
  | 0, _, _, _, _ => none
  | k + 1, x0, x18, x19, x20 => if x20 < x19 then (if 0 ≤ x20 then (if x20 < (x18.length : Int) then (impl_FitsRing.l1 k x0 (rd x18 x20) x18 x19 x20 x0 (x0.length : Int) 0) else (none)) else (none)) else (some (true, true))
def impl_FitsRing.l1 : Nat → List Int → Int → List Int → Int → Int → List Int → Int → Int → Option (Bool × Bool)
  | 0, _, _, _, _, _, _, _, _ => none
  | k + 1, x0, x5, x18, x19, x20, x24, x25, x26 => if x26 < x25 then (if 0 ≤ x26 then (if x26 < (x24.length : Int) then (if x5 = (rd x24 x26) then (impl_FitsRing.j3 k x0 x5 (rd x24 x26) x18 x19 x20 x24 x25 x26 false) else ((impl_isNewer.f x5 (rd x24 x26)).bind fun t126 => ((impl_isNewer.f (rd x24 x26) x5).bind fun t127 => (impl_FitsRing.j3 k x0 x5 (rd x24 x26) x18 x19 x20 x24 x25 x26 (t126 == t127))))) else (none)) else (none)) else (impl_FitsRing.l0 k x0 x18 x19 (wrap64 (x20 + 1)))
def impl_FitsRing.j3 : Nat → List Int → Int → Int → List Int → Int → Int → List Int → Int → Int → Bool → Option (Bool × Bool)
  | 0, _, _, _, _, _, _, _, _, _, _ => none
  | k + 1, x0, x5, x7, x18, x19, x20, x24, x25, x26, x41 => if x41 = true then (some (false, true)) else ((impl_isNewer.f x5 x7).bind fun t128 => (if t128 = true then (impl_FitsRing.l2 k x0 x5 x7 x18 x19 x20 x24 x25 x26 x0 (x0.length : Int) 0) else (impl_FitsRing.l1 k x0 x5 x18 x19 x20 x24 x25 (wrap64 (x26 + 1)))))
def impl_FitsRing.l2 : Nat → List Int → Int → Int → List Int → Int → Int → List Int → Int → Int → List Int → Int → Int → Option (Bool × Bool)
  | 0, _, _, _, _, _, _, _, _, _, _, _, _ => none
  | k + 1, x0, x5, x7, x18, x19, x20, x24, x25, x26, x46, x47, x48 => if x48 < x47 then (if 0 ≤ x48 then (if x48 < (x46.length : Int) then ((impl_isNewer.f x7 (rd x46 x48)).bind fun t130 => (if t130 = true then ((impl_isNewer.f (rd x46 x48) x5).bind fun t131 => (if t131 = true then (some (false, true)) else (impl_FitsRing.l2 k x0 x5 x7 x18 x19 x20 x24 x25 x26 x46 x47 (wrap64 (x48 + 1))))) else (impl_FitsRing.l2 k x0 x5 x7 x18 x19 x20 x24 x25 x26 x46 x47 (wrap64 (x48 + 1))))) else (none)) else (none)) else (impl_FitsRing.l1 k x0 x5 x18 x19 x20 x24 x25 (wrap64 (x26 + 1)))
end
def impl_FitsRing.f (k : Nat) (l0 : List Int) : Option (Bool × Bool) := if (l0.length : Int) > 40 then (impl_FitsRing.j0 k l0 true) else ((impl_allIn.f k l0 0 63).bind fun t123 => (impl_FitsRing.j0 k l0 (!t123)))
theorem impl_FitsRing.mono_l : ∀ k, (∀ y0 y1, LeO (impl_FitsRing.j0 k y0 y1) (impl_FitsRing.j0 (k + 1) y0 y1)) ∧ (∀ y0 y1 y2 y3, LeO (impl_FitsRing.l0 k y0 y1 y2 y3) (impl_FitsRing.l0 (k + 1) y0 y1 y2 y3)) ∧ (∀ y0 y1 y2 y3 y4 y5 y6 y7, LeO (impl_FitsRing.l1 k y0 y1 y2 y3 y4 y5 y6 y7) (impl_FitsRing.l1 (k + 1) y0 y1 y2 y3 y4 y5 y6 y7)) ∧ (∀ y0 y1 y2 y3 y4 y5 y6 y7 y8 y9, LeO (impl_FitsRing.j3 k y0 y1 y2 y3 y4 y5 y6 y7 y8 y9) (impl_FitsRing.j3 (k + 1) y0 y1 y2 y3 y4 y5 y6 y7 y8 y9)) ∧ (∀ y0 y1 y2 y3 y4 y5 y6 y7 y8 y9 y10 y11, LeO (impl_FitsRing.l2 k y0 y1 y2 y3 y4 y5 y6 y7 y8 y9 y10 y11) (impl_FitsRing.l2 (k + 1) y0 y1 y2 y3 y4 y5 y6 y7 y8 y9 y10 y11))
  | 0 => ⟨fun _ _ r h => by simp [impl_FitsRing.j0] at h, fun _ _ _ _ r h => by simp [impl_FitsRing.l0] at h, fun _ _ _ _ _ _ _ _ r h => by simp [impl_FitsRing.l1] at h, fun _ _ _ _ _ _ _ _ _ _ r h => by simp [impl_FitsRing.j3] at h, fun _ _ _ _ _ _ _ _ _ _ _ _ r h => by simp [impl_FitsRing.l2] at h⟩
  | k + 1 => by
    obtain ⟨ih0, ih1, ih2, ih3, ih4⟩ := impl_FitsRing.mono_l k
    refine ⟨?_, ?_, ?_, ?_, ?_⟩
    · intro y0 y1
      unfold impl_FitsRing.j0
      repeat' first
      | (with_reducible exact ih0 _ _)
      | (with_reducible exact ih1 _ _ _ _)
      | (with_reducible exact ih2 _ _ _ _ _ _ _ _)
      | (with_reducible exact ih3 _ _ _ _ _ _ _ _ _ _)
      | (with_reducible exact ih4 _ _ _ _ _ _ _ _ _ _ _ _)
      | (with_reducible exact impl_allIn.mono _ _ _ _)
      | (with_reducible exact LeO.refl _)
      | (with_reducible exact LeO.none _)
      | (with_reducible refine LeO.ite ?_ ?_)
      | (with_reducible refine LeO.bind ?_ (fun _ => ?_))
      | exact ih0 _ _
      | exact ih1 _ _ _ _
      | exact ih2 _ _ _ _ _ _ _ _
      | exact ih3 _ _ _ _ _ _ _ _ _ _
      | exact ih4 _ _ _ _ _ _ _ _ _ _ _ _
      | exact impl_allIn.mono _ _ _ _
      | exact LeO.none _
      | refine LeO.ite ?_ ?_
      | refine LeO.bind ?_ (fun _ => ?_)
    · intro y0 y1 y2 y3
      unfold impl_FitsRing.l0
      repeat' first
      | (with_reducible exact ih0 _ _)
      | (with_reducible exact ih1 _ _ _ _)
      | (with_reducible exact ih2 _ _ _ _ _ _ _ _)
      | (with_reducible exact ih3 _ _ _ _ _ _ _ _ _ _)
      | (with_reducible exact ih4 _ _ _ _ _ _ _ _ _ _ _ _)
      | (with_reducible exact impl_allIn.mono _ _ _ _)
      | (with_reducible exact LeO.refl _)
      | (with_reducible exact LeO.none _)
      | (with_reducible refine LeO.ite ?_ ?_)
      | (with_reducible refine LeO.bind ?_ (fun _ => ?_))
      | exact ih0 _ _
      | exact ih1 _ _ _ _
      | exact ih2 _ _ _ _ _ _ _ _
      | exact ih3 _ _ _ _ _ _ _ _ _ _
      | exact ih4 _ _ _ _ _ _ _ _ _ _ _ _
      | exact impl_allIn.mono _ _ _ _
      | exact LeO.none _
      | refine LeO.ite ?_ ?_
      | refine LeO.bind ?_ (fun _ => ?_)
    · intro y0 y1 y2 y3 y4 y5 y6 y7
      unfold impl_FitsRing.l1
      repeat' first
      | (with_reducible exact ih0 _ _)
      | (with_reducible exact ih1 _ _ _ _)
      | (with_reducible exact ih2 _ _ _ _ _ _ _ _)
      | (with_reducible exact ih3 _ _ _ _ _ _ _ _ _ _)
      | (with_reducible exact ih4 _ _ _ _ _ _ _ _ _ _ _ _)
      | (with_reducible exact impl_allIn.mono _ _ _ _)
      | (with_reducible exact LeO.refl _)
      | (with_reducible exact LeO.none _)
      | (with_reducible refine LeO.ite ?_ ?_)
      | (with_reducible refine LeO.bind ?_ (fun _ => ?_))
      | exact ih0 _ _
      | exact ih1 _ _ _ _
      | exact ih2 _ _ _ _ _ _ _ _
      | exact ih3 _ _ _ _ _ _ _ _ _ _
      | exact ih4 _ _ _ _ _ _ _ _ _ _ _ _
      | exact impl_allIn.mono _ _ _ _
      | exact LeO.none _
      | refine LeO.ite ?_ ?_
      | refine LeO.bind ?_ (fun _ => ?_)
    · intro y0 y1 y2 y3 y4 y5 y6 y7 y8 y9
      unfold impl_FitsRing.j3
      repeat' first
      | (with_reducible exact ih0 _ _)
      | (with_reducible exact ih1 _ _ _ _)
      | (with_reducible exact ih2 _ _ _ _ _ _ _ _)
      | (with_reducible exact ih3 _ _ _ _ _ _ _ _ _ _)
      | (with_reducible exact ih4 _ _ _ _ _ _ _ _ _ _ _ _)
      | (with_reducible exact impl_allIn.mono _ _ _ _)
      | (with_reducible exact LeO.refl _)
      | (with_reducible exact LeO.none _)
      | (with_reducible refine LeO.ite ?_ ?_)
      | (with_reducible refine LeO.bind ?_ (fun _ => ?_))
      | exact ih0 _ _
      | exact ih1 _ _ _ _
      | exact ih2 _ _ _ _ _ _ _ _
      | exact ih3 _ _ _ _ _ _ _ _ _ _
      | exact ih4 _ _ _ _ _ _ _ _ _ _ _ _
      | exact impl_allIn.mono _ _ _ _
      | exact LeO.none _
      | refine LeO.ite ?_ ?_
      | refine LeO.bind ?_ (fun _ => ?_)
    · intro y0 y1 y2 y3 y4 y5 y6 y7 y8 y9 y10 y11
      unfold impl_FitsRing.l2
      repeat' first
      | (with_reducible exact ih0 _ _)
      | (with_reducible exact ih1 _ _ _ _)
      | (with_reducible exact ih2 _ _ _ _ _ _ _ _)
      | (with_reducible exact ih3 _ _ _ _ _ _ _ _ _ _)
      | (with_reducible exact ih4 _ _ _ _ _ _ _ _ _ _ _ _)
      | (with_reducible exact impl_allIn.mono _ _ _ _)
      | (with_reducible exact LeO.refl _)
      | (with_reducible exact LeO.none _)
      | (with_reducible refine LeO.ite ?_ ?_)
      | (with_reducible refine LeO.bind ?_ (fun _ => ?_))
      | exact ih0 _ _
      | exact ih1 _ _ _ _
      | exact ih2 _ _ _ _ _ _ _ _
      | exact ih3 _ _ _ _ _ _ _ _ _ _
      | exact ih4 _ _ _ _ _ _ _ _ _ _ _ _
      | exact impl_allIn.mono _ _ _ _
      | exact LeO.none _
      | refine LeO.ite ?_ ?_
      | refine LeO.bind ?_ (fun _ => ?_)
theorem impl_FitsRing.mono : ∀ a0 k, LeO (impl_FitsRing.f k a0) (impl_FitsRing.f (k + 1) a0) := by
  intro a0 k
  obtain ⟨ih0, ih1, ih2, ih3, ih4⟩ := impl_FitsRing.mono_l k
  unfold impl_FitsRing.f
  repeat' first
      | (with_reducible exact ih0 _ _)
      | (with_reducible exact ih1 _ _ _ _)
      | (with_reducible exact ih2 _ _ _ _ _ _ _ _)
      | (with_reducible exact ih3 _ _ _ _ _ _ _ _ _ _)
      | (with_reducible exact ih4 _ _ _ _ _ _ _ _ _ _ _ _)
      | (with_reducible exact impl_allIn.mono _ _ _ _)
      | (with_reducible exact LeO.refl _)
      | (with_reducible exact LeO.none _)
      | (with_reducible refine LeO.ite ?_ ?_)
      | (with_reducible refine LeO.bind ?_ (fun _ => ?_))
      | exact ih0 _ _
      | exact ih1 _ _ _ _
      | exact ih2 _ _ _ _ _ _ _ _
      | exact ih3 _ _ _ _ _ _ _ _ _ _
      | exact ih4 _ _ _ _ _ _ _ _ _ _ _ _
      | exact impl_allIn.mono _ _ _ _
      | exact LeO.none _
      | refine LeO.ite ?_ ?_
      | refine LeO.bind ?_ (fun _ => ?_)
set_option maxHeartbeats 8000000 in
set_option maxRecDepth 100000 in
theorem impl_FitsRing.calls (k : Nat) (A0 : Option Addr) (c0 : Nat) (l0 : List Int) (r1 : Bool) (r2 : Bool) (w : World) (hr0 : Kd.C (Kd.int .i64) w A0 l0.length l0) (hc0 : l0.length ≤ c0) (h : impl_FitsRing.f k l0 = some (r1, r2)) :
    Calls Try.prog 30 #[.slice A0 l0.length c0] w fun e w' => e = .returned (.tuple #[.bool r1, .bool r2]) ∧ Drawn0 w w' := by
  have HR0 := Aside0.mk hr0
  have HC0 := Aside0.mk hc0
  clear hr0 hc0
  have H : (if (l0.length : Int) > 40 then (impl_FitsRing.j0 k l0 true) else ((impl_allIn.f k l0 0 63).bind fun t123 => (impl_FitsRing.j0 k l0 (!t123)))) = some (r1, r2) := h
  clear h
  have HC2 := Aside0.mk H
  clear H
  go_enter Try.func30, Try.ntmps30
  go_upto_region 1 with (fail)
  go_cut [17] (fun v17 wc => ∃ (kq : Nat) (x17_1 : Bool), v17 = .bool x17_1 ∧ Aside0 (impl_FitsRing.j0 kq l0 x17_1 = some (r1, r2)) ∧ Aside0 (kq ≤ k) ∧ Drawn0 w wc)
  case first =>
    have H := HC2.out
    clear HC2
    by_cases c3 : (l0.length : Int) > 40
    · rw [if_pos c3] at H
      have c3b0 : decide (40 < (l0.length : Int)) = true := decide_eq_true c3
      have c3b1 : decide (40 < l0.length) = true := decide_eq_true (by omega)
      clear c3
      (first | rw [c3b0] | (simp only [i64_w, i32_w]; rw [c3b0]) | skip)
      have H' := Aside0.mk H
      clear H
      go_wp2
      go_meet
      case rel => exact ⟨_, (true), (by first | rfl | (simp; done) | (simp [*]; done)), H', ⟨by first | omega | exact Nat.le_refl _⟩, by repeat (first | exact Drawn0.refl _ | apply Drawn0.step)⟩
    · rw [if_neg c3] at H
      have c3b0 : decide (40 < (l0.length : Int)) = false := decide_eq_false c3
      have c3b1 : decide (40 < l0.length) = false := decide_eq_false (by omega)
      clear c3
      (first | rw [c3b0] | (simp only [i64_w, i32_w]; rw [c3b0]) | skip)
      replace H := Option.bind_eq_some_iff.mp H
      obtain ⟨t123, A40, H⟩ := H
      replace H : (impl_FitsRing.j0 k l0 (!t123)) = some (r1, r2) := H
      have A4 := Aside0.mk A40
      clear A40
      have H' := Aside0.mk H
      clear H
      go_wp2_with (first | (go_at_call 54; (with_reducible refine (impl_allIn.calls k _ _ l0 0 63 t123 _ ?side1 ?side2 A4.out).mono ?_); (case side1 => repeat (first | exact HR0.out | (with_reducible refine Kd.C_alloc ?_ _) | (with_reducible refine Kd.C_drewN ?_ _) | (with_reducible refine Kd.C_drew ?_))); (case side2 => exact HC0.out); rintro e w' ⟨rfl, ⟨nd, rfl⟩⟩))
      go_meet
      case rel => exact ⟨_, (!t123), (by first | rfl | (simp; done) | (simp [*]; done)), H', ⟨by first | omega | exact Nat.le_refl _⟩, by repeat (first | exact Drawn0.refl _ | apply Drawn0.step)⟩
  case rest =>
    clear HC2
    try clear p2
    try clear c3
    try clear c3b0
    try clear c3b1
    obtain ⟨kq, x17_1, rfl, HA, HJ1, ⟨mc1, rfl⟩⟩ := hcut
    cases kq with
    | zero => exact absurd HA.out (by simp [impl_FitsRing.j0])
    | succ kj1 =>
      have H := HA.out
      clear HA
      simp only [impl_FitsRing.j0] at H
      by_cases c5 : x17_1 = true
      · subst c5
        have H1 : (some (false, false)) = some (r1, r2) := by rw [if_pos rfl] at H; exact H
        clear H
        have H := H1
        clear H1
        simp only [Option.some.injEq, Prod.mk.injEq] at H
        obtain ⟨rfl, rfl⟩ := H
        go_wp2
        go_ret2
        exact ⟨by first | rfl | (simp; done) | (simp [*]; done), by repeat (first | exact Drawn0.refl _ | apply Drawn0.step)⟩
      · replace c5 := Bool.eq_false_iff.mpr c5
        subst c5
        have H1 : (impl_FitsRing.l0 kj1 l0 l0 (l0.length : Int) 0) = some (r1, r2) := by rw [if_neg (show ¬ (false = true) by decide)] at H; exact H
        clear H
        have H := H1
        clear H1
        have H' := Aside0.mk H
        clear H
        go_wp2
        go_loopg [20] kj1 (fun kq v20 w' => ∃ (x20_2 : Int), v20 = .int .i64 x20_2 ∧ Aside0 (impl_FitsRing.l0 kq l0 l0 (l0.length : Int) x20_2 = some (r1, r2)) ∧ Aside0 (kq ≤ kj1) ∧ Drawn0 w w')
        case atStart => exact ⟨(0), (by first | rfl | (simp; done) | (simp [*]; done)), H', ⟨Nat.le_refl _⟩, by repeat (first | exact Drawn0.refl _ | apply Drawn0.step)⟩
        case round =>
          clear H'
          try clear c1
          try clear p2
          try clear c3
          try clear c3b0
          try clear c3b1
          try clear c5
          try clear p2
          obtain ⟨x20_2, rfl, HA, HK2, ⟨m2, rfl⟩⟩ := hrel
          cases gk with
          | zero => exact absurd HA.out (by simp [impl_FitsRing.l0])
          | succ k2 =>
            have H := HA.out
            clear HA
            simp only [impl_FitsRing.l0] at H
            by_cases c6 : x20_2 < (l0.length : Int)
            · rw [if_pos c6] at H
              have c6b0 : decide (x20_2 < (l0.length : Int)) = true := decide_eq_true c6
              clear c6
              by_cases c7 : 0 ≤ x20_2
              · rw [if_pos c7] at H
                have c7b0 : decide (0 ≤ x20_2) = true := decide_eq_true c7
                clear c7
                by_cases c8 : x20_2 < (l0.length : Int)
                · rw [if_pos c8] at H
                  have c8b0 : decide (x20_2 < (l0.length : Int)) = true := decide_eq_true c8
                  clear c8
                  have H' := Aside0.mk H
                  clear H
                  have p124 : 0 ≤ (x20_2 : Int) := of_decide_eq_true (by first | (with_reducible assumption) | assumption)
                  have q124 : x20_2 < (l0.length : Int) := of_decide_eq_true (by first | (with_reducible assumption) | assumption)
                  obtain ⟨ad124, e124, hx124_0⟩ := Kd.at_int HR0.out x20_2 p124 q124
                  cases e124
                  replace p124 := eq_true p124
                  replace q124 := eq_true q124
                  go_wp2
                  go_loopg [26] k2 (fun kq v26 w' => ∃ (x26_3 : Int), v26 = .int .i64 x26_3 ∧ Aside0 (impl_FitsRing.l1 kq l0 (rd l0 x20_2) l0 (l0.length : Int) x20_2 l0 (l0.length : Int) x26_3 = some (r1, r2)) ∧ Aside0 (kq ≤ k2) ∧ Drawn0 w w')
                  case atStart => exact ⟨(0), (by first | rfl | (simp; done) | (simp [*]; done)), H', ⟨Nat.le_refl _⟩, by repeat (first | exact Drawn0.refl _ | apply Drawn0.step)⟩
                  case round =>
                    clear H'
                    try clear c1
                    try clear p1
                    try clear q1
                    try clear hx1
                    try clear p2
                    try clear c3
                    try clear c3b0
                    try clear c3b1
                    try clear c5
                    try clear c6
                    try clear c6b0
                    try clear c7
                    try clear c7b0
                    try clear c8
                    try clear c8b0
                    try clear hx124_0
                    try clear p124
                    try clear p2
                    try clear q124
                    obtain ⟨x26_3, rfl, HA, HK3, ⟨m3, rfl⟩⟩ := hrel
                    cases gk with
                    | zero => exact absurd HA.out (by simp [impl_FitsRing.l1])
                    | succ k3 =>
                      have H := HA.out
                      clear HA
                      simp only [impl_FitsRing.l1] at H
                      by_cases c9 : x26_3 < (l0.length : Int)
                      · rw [if_pos c9] at H
                        have c9b0 : decide (x26_3 < (l0.length : Int)) = true := decide_eq_true c9
                        clear c9
                        by_cases c10 : 0 ≤ x26_3
                        · rw [if_pos c10] at H
                          have c10b0 : decide (0 ≤ x26_3) = true := decide_eq_true c10
                          clear c10
                          by_cases c11 : x26_3 < (l0.length : Int)
                          · rw [if_pos c11] at H
                            have c11b0 : decide (x26_3 < (l0.length : Int)) = true := decide_eq_true c11
                            clear c11
                            have HC12 := Aside0.mk H
                            clear H
                            have p125 : 0 ≤ (x26_3 : Int) := of_decide_eq_true (by first | (with_reducible assumption) | assumption)
                            have q125 : x26_3 < (l0.length : Int) := of_decide_eq_true (by first | (with_reducible assumption) | assumption)
                            obtain ⟨ad125, e125, hx125_0⟩ := Kd.at_int HR0.out x26_3 p125 q125
                            obtain rfl : ad124 = ad125 := (by injection e125)
                            replace p125 := eq_true p125
                            replace q125 := eq_true q125
                            go_upto_region 9 with (fail)
                            go_cut [41] (fun v41 wc => ∃ (kq : Nat) (x41_11 : Bool), v41 = .bool x41_11 ∧ Aside0 (impl_FitsRing.j3 kq l0 (rd l0 x20_2) (rd l0 x26_3) l0 (l0.length : Int) x20_2 l0 (l0.length : Int) x26_3 x41_11 = some (r1, r2)) ∧ Aside0 (kq ≤ k3) ∧ Drawn0 w wc)
                            case first =>
                              have H := HC12.out
                              clear HC12
                              by_cases c13 : (rd l0 x20_2) = (rd l0 x26_3)
                              · rw [if_pos c13] at H
                                have c13b0 : ((rd l0 x20_2) == (rd l0 x26_3)) = true := beq_iff_eq.mpr c13
                                have c13b1 : ((rd l0 x20_2) != (rd l0 x26_3)) = false := bne_eq_false_iff_eq.mpr c13
                                clear c13
                                (first | rw [c13b0] | (simp only [i64_w, i32_w]; rw [c13b0]) | skip)
                                have H' := Aside0.mk H
                                clear H
                                go_wp2
                                go_meet
                                case rel => exact ⟨_, (false), (by first | rfl | (simp; done) | (simp [*]; done)), H', ⟨by have := HJ1.out; have := HK2.out; have := HK3.out; first | omega | exact Nat.le_refl _⟩, by repeat (first | exact Drawn0.refl _ | apply Drawn0.step)⟩
                              · rw [if_neg c13] at H
                                have c13b0 : ((rd l0 x20_2) == (rd l0 x26_3)) = false := beq_eq_false_iff_ne.mpr c13
                                have c13b1 : ((rd l0 x20_2) != (rd l0 x26_3)) = true := bne_iff_ne.mpr c13
                                (first | rw [c13b0] | (simp only [i64_w, i32_w]; rw [c13b0]) | skip)
                                replace H := Option.bind_eq_some_iff.mp H
                                obtain ⟨t126, A140, H⟩ := H
                                replace H : ((impl_isNewer.f (rd l0 x26_3) (rd l0 x20_2)).bind fun t127 => (impl_FitsRing.j3 k3 l0 (rd l0 x20_2) (rd l0 x26_3) l0 (l0.length : Int) x20_2 l0 (l0.length : Int) x26_3 (t126 == t127))) = some (r1, r2) := H
                                have A14 := Aside0.mk A140
                                clear A140
                                replace H := Option.bind_eq_some_iff.mp H
                                obtain ⟨t127, A150, H⟩ := H
                                replace H : (impl_FitsRing.j3 k3 l0 (rd l0 x20_2) (rd l0 x26_3) l0 (l0.length : Int) x20_2 l0 (l0.length : Int) x26_3 (t126 == t127)) = some (r1, r2) := H
                                have A15 := Aside0.mk A150
                                clear A150
                                have H' := Aside0.mk H
                                clear H
                                go_wp2_with (first | (go_at_call 48; (with_reducible refine (impl_isNewer.calls (rd l0 x20_2) (rd l0 x26_3) t126 _ A14.out).mono ?_); rintro e w' ⟨rfl, ⟨nd, rfl⟩⟩) | (go_at_call 48; (with_reducible refine (impl_isNewer.calls (rd l0 x26_3) (rd l0 x20_2) t127 _ A15.out).mono ?_); rintro e w' ⟨rfl, ⟨nd, rfl⟩⟩))
                                go_meet
                                case rel => exact ⟨_, ((t126 == t127)), (by first | rfl | (simp; done) | (simp [*]; done)), H', ⟨by have := HJ1.out; have := HK2.out; have := HK3.out; first | omega | exact Nat.le_refl _⟩, by repeat (first | exact Drawn0.refl _ | apply Drawn0.step)⟩
                            case rest =>
                              clear HC12
                              try clear c1
                              try clear p1
                              try clear q1
                              try clear hx1
                              try clear p2
                              try clear c3
                              try clear c3b0
                              try clear c3b1
                              try clear c5
                              try clear c6
                              try clear c6b0
                              try clear c7
                              try clear c7b0
                              try clear c8
                              try clear c8b0
                              try clear c9
                              try clear c9b0
                              try clear c10
                              try clear c10b0
                              try clear c11
                              try clear c11b0
                              try clear p12
                              try clear q12
                              try clear hx12
                              try clear c13
                              try clear c13b0
                              try clear c13b1
                              try clear hx124_0
                              try clear hx125_0
                              try clear p1
                              try clear p124
                              try clear p125
                              try clear p2
                              try clear q1
                              try clear q124
                              try clear q125
                              obtain ⟨kq, x41_11, rfl, HA, HJ11, ⟨mc11, rfl⟩⟩ := hcut
                              cases kq with
                              | zero => exact absurd HA.out (by simp [impl_FitsRing.j3])
                              | succ kj11 =>
                                have H := HA.out
                                clear HA
                                simp only [impl_FitsRing.j3] at H
                                by_cases c16 : x41_11 = true
                                · subst c16
                                  have H1 : (some (false, true)) = some (r1, r2) := by rw [if_pos rfl] at H; exact H
                                  clear H
                                  have H := H1
                                  clear H1
                                  simp only [Option.some.injEq, Prod.mk.injEq] at H
                                  obtain ⟨rfl, rfl⟩ := H
                                  go_wp2
                                  go_ret2
                                  exact ⟨by first | rfl | (simp; done) | (simp [*]; done), by repeat (first | exact Drawn0.refl _ | apply Drawn0.step)⟩
                                · replace c16 := Bool.eq_false_iff.mpr c16
                                  subst c16
                                  have H1 : ((impl_isNewer.f (rd l0 x20_2) (rd l0 x26_3)).bind fun t128 => (if t128 = true then (impl_FitsRing.l2 kj11 l0 (rd l0 x20_2) (rd l0 x26_3) l0 (l0.length : Int) x20_2 l0 (l0.length : Int) x26_3 l0 (l0.length : Int) 0) else (impl_FitsRing.l1 kj11 l0 (rd l0 x20_2) l0 (l0.length : Int) x20_2 l0 (l0.length : Int) (wrap64 (x26_3 + 1))))) = some (r1, r2) := by rw [if_neg (show ¬ (false = true) by decide)] at H; exact H
                                  clear H
                                  have H := H1
                                  clear H1
                                  replace H := Option.bind_eq_some_iff.mp H
                                  obtain ⟨t128, A170, H⟩ := H
                                  replace H : (if t128 = true then (impl_FitsRing.l2 kj11 l0 (rd l0 x20_2) (rd l0 x26_3) l0 (l0.length : Int) x20_2 l0 (l0.length : Int) x26_3 l0 (l0.length : Int) 0) else (impl_FitsRing.l1 kj11 l0 (rd l0 x20_2) l0 (l0.length : Int) x20_2 l0 (l0.length : Int) (wrap64 (x26_3 + 1)))) = some (r1, r2) := H
                                  have A17 := Aside0.mk A170
                                  clear A170
                                  by_cases c18 : t128 = true
                                  · subst c18
                                    have H1 : (impl_FitsRing.l2 kj11 l0 (rd l0 x20_2) (rd l0 x26_3) l0 (l0.length : Int) x20_2 l0 (l0.length : Int) x26_3 l0 (l0.length : Int) 0) = some (r1, r2) := by rw [if_pos rfl] at H; exact H
                                    clear H
                                    have H := H1
                                    clear H1
                                    have H' := Aside0.mk H
                                    clear H
                                    go_wp2_with (first | ((with_reducible refine gate_callee (f := 48) rfl ?_); refine goesL_ (some 44) rfl rfl Try.func48 (by kernel_rfl) rfl #[.int .i64 (rd l0 x20_2), .int .i64 (rd l0 x26_3)] rfl (by (try simp only [List.map_toArray, List.map_cons, List.map_nil]); first | done | rfl | (simp only [List.length_drop, List.length_take]; rfl)) ?_; (with_reducible refine (impl_isNewer.calls (rd l0 x20_2) (rd l0 x26_3) true _ A17.out).mono ?_); rintro e w' ⟨rfl, ⟨nd, rfl⟩⟩; refine ⟨_, rfl, ?_⟩))
                                    go_loopg [48] kj11 (fun kq v48 w' => ∃ (x48_5 : Int), v48 = .int .i64 x48_5 ∧ Aside0 (impl_FitsRing.l2 kq l0 (rd l0 x20_2) (rd l0 x26_3) l0 (l0.length : Int) x20_2 l0 (l0.length : Int) x26_3 l0 (l0.length : Int) x48_5 = some (r1, r2)) ∧ Aside0 (kq ≤ kj11) ∧ Drawn0 w w')
                                    case atStart => exact ⟨(0), (by first | rfl | (simp; done) | (simp [*]; done)), H', ⟨Nat.le_refl _⟩, by repeat (first | exact Drawn0.refl _ | apply Drawn0.step)⟩
                                    case round =>
                                      clear H'
                                      try clear c1
                                      try clear p1
                                      try clear q1
                                      try clear hx1
                                      try clear p2
                                      try clear c3
                                      try clear c3b0
                                      try clear c3b1
                                      try clear c4
                                      try clear c5
                                      try clear c6
                                      try clear c6b0
                                      try clear p6
                                      try clear c7
                                      try clear c7b0
                                      try clear c8
                                      try clear c8b0
                                      try clear c9
                                      try clear c9b0
                                      try clear c10
                                      try clear c10b0
                                      try clear c11
                                      try clear c11b0
                                      try clear p12
                                      try clear q12
                                      try clear hx12
                                      try clear c13
                                      try clear c13b0
                                      try clear c13b1
                                      try clear c16
                                      try clear c18
                                      try clear hx124_0
                                      try clear hx125_0
                                      try clear p1
                                      try clear p12
                                      try clear p124
                                      try clear p125
                                      try clear p2
                                      try clear q1
                                      try clear q12
                                      try clear q124
                                      try clear q125
                                      obtain ⟨x48_5, rfl, HA, HK5, ⟨m5, rfl⟩⟩ := hrel
                                      cases gk with
                                      | zero => exact absurd HA.out (by simp [impl_FitsRing.l2])
                                      | succ k5 =>
                                        have H := HA.out
                                        clear HA
                                        simp only [impl_FitsRing.l2] at H
                                        by_cases c19 : x48_5 < (l0.length : Int)
                                        · rw [if_pos c19] at H
                                          have c19b0 : decide (x48_5 < (l0.length : Int)) = true := decide_eq_true c19
                                          clear c19
                                          by_cases c20 : 0 ≤ x48_5
                                          · rw [if_pos c20] at H
                                            have c20b0 : decide (0 ≤ x48_5) = true := decide_eq_true c20
                                            clear c20
                                            by_cases c21 : x48_5 < (l0.length : Int)
                                            · rw [if_pos c21] at H
                                              have c21b0 : decide (x48_5 < (l0.length : Int)) = true := decide_eq_true c21
                                              clear c21
                                              replace H := Option.bind_eq_some_iff.mp H
                                              obtain ⟨t130, A220, H⟩ := H
                                              replace H : (if t130 = true then ((impl_isNewer.f (rd l0 x48_5) (rd l0 x20_2)).bind fun t131 => (if t131 = true then (some (false, true)) else (impl_FitsRing.l2 k5 l0 (rd l0 x20_2) (rd l0 x26_3) l0 (l0.length : Int) x20_2 l0 (l0.length : Int) x26_3 l0 (l0.length : Int) (wrap64 (x48_5 + 1))))) else (impl_FitsRing.l2 k5 l0 (rd l0 x20_2) (rd l0 x26_3) l0 (l0.length : Int) x20_2 l0 (l0.length : Int) x26_3 l0 (l0.length : Int) (wrap64 (x48_5 + 1)))) = some (r1, r2) := H
                                              have A22 := Aside0.mk A220
                                              clear A220
                                              by_cases c23 : t130 = true
                                              · subst c23
                                                have H1 : ((impl_isNewer.f (rd l0 x48_5) (rd l0 x20_2)).bind fun t131 => (if t131 = true then (some (false, true)) else (impl_FitsRing.l2 k5 l0 (rd l0 x20_2) (rd l0 x26_3) l0 (l0.length : Int) x20_2 l0 (l0.length : Int) x26_3 l0 (l0.length : Int) (wrap64 (x48_5 + 1))))) = some (r1, r2) := by rw [if_pos rfl] at H; exact H
                                                clear H
                                                have H := H1
                                                clear H1
                                                replace H := Option.bind_eq_some_iff.mp H
                                                obtain ⟨t131, A240, H⟩ := H
                                                replace H : (if t131 = true then (some (false, true)) else (impl_FitsRing.l2 k5 l0 (rd l0 x20_2) (rd l0 x26_3) l0 (l0.length : Int) x20_2 l0 (l0.length : Int) x26_3 l0 (l0.length : Int) (wrap64 (x48_5 + 1)))) = some (r1, r2) := H
                                                have A24 := Aside0.mk A240
                                                clear A240
                                                by_cases c25 : t131 = true
                                                · subst c25
                                                  have H1 : (some (false, true)) = some (r1, r2) := by rw [if_pos rfl] at H; exact H
                                                  clear H
                                                  have H := H1
                                                  clear H1
                                                  simp only [Option.some.injEq, Prod.mk.injEq] at H
                                                  obtain ⟨rfl, rfl⟩ := H
                                                  have p129 : 0 ≤ (x48_5 : Int) := of_decide_eq_true (by first | (with_reducible assumption) | assumption)
                                                  have q129 : x48_5 < (l0.length : Int) := of_decide_eq_true (by first | (with_reducible assumption) | assumption)
                                                  obtain ⟨ad129, e129, hx129_0⟩ := Kd.at_int HR0.out x48_5 p129 q129
                                                  obtain rfl : ad124 = ad129 := (by injection e129)
                                                  replace p129 := eq_true p129
                                                  replace q129 := eq_true q129
                                                  go_wp2_with (first | ((with_reducible refine gate_callee (f := 48) rfl ?_); refine goesL_ (some 54) rfl rfl Try.func48 (by kernel_rfl) rfl #[.int .i64 (rd l0 x26_3), .int .i64 (rd l0 x48_5)] rfl (by (try simp only [List.map_toArray, List.map_cons, List.map_nil]); first | done | rfl | (simp only [List.length_drop, List.length_take]; rfl)) ?_; (with_reducible refine (impl_isNewer.calls (rd l0 x26_3) (rd l0 x48_5) true _ A22.out).mono ?_); rintro e w' ⟨rfl, ⟨nd, rfl⟩⟩; refine ⟨_, rfl, ?_⟩) | (go_at_call 48; (with_reducible refine (impl_isNewer.calls (rd l0 x48_5) (rd l0 x20_2) true _ A24.out).mono ?_); rintro e w' ⟨rfl, ⟨nd, rfl⟩⟩))
                                                  go_ret2
                                                  exact ⟨by first | rfl | (simp; done) | (simp [*]; done), by repeat (first | exact Drawn0.refl _ | apply Drawn0.step)⟩
                                                · replace c25 := Bool.eq_false_iff.mpr c25
                                                  subst c25
                                                  have H1 : (impl_FitsRing.l2 k5 l0 (rd l0 x20_2) (rd l0 x26_3) l0 (l0.length : Int) x20_2 l0 (l0.length : Int) x26_3 l0 (l0.length : Int) (wrap64 (x48_5 + 1))) = some (r1, r2) := by rw [if_neg (show ¬ (false = true) by decide)] at H; exact H
                                                  clear H
                                                  have H := H1
                                                  clear H1
                                                  have H' := Aside0.mk H
                                                  clear H
                                                  have p129 : 0 ≤ (x48_5 : Int) := of_decide_eq_true (by first | (with_reducible assumption) | assumption)
                                                  have q129 : x48_5 < (l0.length : Int) := of_decide_eq_true (by first | (with_reducible assumption) | assumption)
                                                  obtain ⟨ad129, e129, hx129_0⟩ := Kd.at_int HR0.out x48_5 p129 q129
                                                  obtain rfl : ad124 = ad129 := (by injection e129)
                                                  replace p129 := eq_true p129
                                                  replace q129 := eq_true q129
                                                  go_wp2_with (first | ((with_reducible refine gate_callee (f := 48) rfl ?_); refine goesL_ (some 54) rfl rfl Try.func48 (by kernel_rfl) rfl #[.int .i64 (rd l0 x26_3), .int .i64 (rd l0 x48_5)] rfl (by (try simp only [List.map_toArray, List.map_cons, List.map_nil]); first | done | rfl | (simp only [List.length_drop, List.length_take]; rfl)) ?_; (with_reducible refine (impl_isNewer.calls (rd l0 x26_3) (rd l0 x48_5) true _ A22.out).mono ?_); rintro e w' ⟨rfl, ⟨nd, rfl⟩⟩; refine ⟨_, rfl, ?_⟩) | (go_at_call 48; (with_reducible refine (impl_isNewer.calls (rd l0 x48_5) (rd l0 x20_2) false _ A24.out).mono ?_); rintro e w' ⟨rfl, ⟨nd, rfl⟩⟩))
                                                  go_roundg k5
                                                  case measure => have := HJ1.out; have := HK2.out; have := HK3.out; have := HJ11.out; have := HK5.out; omega
                                                  case rel => exact ⟨(wrap64 (x48_5 + 1)), (by first | rfl | (simp; done) | (simp [*]; done)), H', ⟨by have := HJ1.out; have := HK2.out; have := HK3.out; have := HJ11.out; have := HK5.out; omega⟩, by repeat (first | exact Drawn0.refl _ | apply Drawn0.step)⟩
                                              · replace c23 := Bool.eq_false_iff.mpr c23
                                                subst c23
                                                have H1 : (impl_FitsRing.l2 k5 l0 (rd l0 x20_2) (rd l0 x26_3) l0 (l0.length : Int) x20_2 l0 (l0.length : Int) x26_3 l0 (l0.length : Int) (wrap64 (x48_5 + 1))) = some (r1, r2) := by rw [if_neg (show ¬ (false = true) by decide)] at H; exact H
                                                clear H
                                                have H := H1
                                                clear H1
                                                have H' := Aside0.mk H
                                                clear H
                                                have p129 : 0 ≤ (x48_5 : Int) := of_decide_eq_true (by first | (with_reducible assumption) | assumption)
                                                have q129 : x48_5 < (l0.length : Int) := of_decide_eq_true (by first | (with_reducible assumption) | assumption)
                                                obtain ⟨ad129, e129, hx129_0⟩ := Kd.at_int HR0.out x48_5 p129 q129
                                                obtain rfl : ad124 = ad129 := (by injection e129)
                                                replace p129 := eq_true p129
                                                replace q129 := eq_true q129
                                                go_wp2_with (first | ((with_reducible refine gate_callee (f := 48) rfl ?_); refine goesL_ (some 54) rfl rfl Try.func48 (by kernel_rfl) rfl #[.int .i64 (rd l0 x26_3), .int .i64 (rd l0 x48_5)] rfl (by (try simp only [List.map_toArray, List.map_cons, List.map_nil]); first | done | rfl | (simp only [List.length_drop, List.length_take]; rfl)) ?_; (with_reducible refine (impl_isNewer.calls (rd l0 x26_3) (rd l0 x48_5) false _ A22.out).mono ?_); rintro e w' ⟨rfl, ⟨nd, rfl⟩⟩; refine ⟨_, rfl, ?_⟩))
                                                go_roundg k5
                                                case measure => have := HJ1.out; have := HK2.out; have := HK3.out; have := HJ11.out; have := HK5.out; omega
                                                case rel => exact ⟨(wrap64 (x48_5 + 1)), (by first | rfl | (simp; done) | (simp [*]; done)), H', ⟨by have := HJ1.out; have := HK2.out; have := HK3.out; have := HJ11.out; have := HK5.out; omega⟩, by repeat (first | exact Drawn0.refl _ | apply Drawn0.step)⟩
                                            · rw [if_neg c21] at H
                                              exact absurd H (by simp)
                                          · rw [if_neg c20] at H
                                            exact absurd H (by simp)
                                        · rw [if_neg c19] at H
                                          have c19b0 : decide (x48_5 < (l0.length : Int)) = false := decide_eq_false c19
                                          clear c19
                                          have H' := Aside0.mk H
                                          clear H
                                          go_wp2
                                          go_roundg k5
                                          case measure => have := HJ1.out; have := HK2.out; have := HK3.out; have := HJ11.out; have := HK5.out; omega
                                          case rel => exact ⟨(wrap64 (x26_3 + 1)), (by first | rfl | (simp; done) | (simp [*]; done)), H', ⟨by have := HJ1.out; have := HK2.out; have := HK3.out; have := HJ11.out; have := HK5.out; omega⟩, by repeat (first | exact Drawn0.refl _ | apply Drawn0.step)⟩
                                  · replace c18 := Bool.eq_false_iff.mpr c18
                                    subst c18
                                    have H1 : (impl_FitsRing.l1 kj11 l0 (rd l0 x20_2) l0 (l0.length : Int) x20_2 l0 (l0.length : Int) (wrap64 (x26_3 + 1))) = some (r1, r2) := by rw [if_neg (show ¬ (false = true) by decide)] at H; exact H
                                    clear H
                                    have H := H1
                                    clear H1
                                    have H' := Aside0.mk H
                                    clear H
                                    go_wp2_with (first | ((with_reducible refine gate_callee (f := 48) rfl ?_); refine goesL_ (some 44) rfl rfl Try.func48 (by kernel_rfl) rfl #[.int .i64 (rd l0 x20_2), .int .i64 (rd l0 x26_3)] rfl (by (try simp only [List.map_toArray, List.map_cons, List.map_nil]); first | done | rfl | (simp only [List.length_drop, List.length_take]; rfl)) ?_; (with_reducible refine (impl_isNewer.calls (rd l0 x20_2) (rd l0 x26_3) false _ A17.out).mono ?_); rintro e w' ⟨rfl, ⟨nd, rfl⟩⟩; refine ⟨_, rfl, ?_⟩))
                                    go_roundg kj11
                                    case measure => have := HJ1.out; have := HK2.out; have := HK3.out; have := HJ11.out; omega
                                    case rel => exact ⟨(wrap64 (x26_3 + 1)), (by first | rfl | (simp; done) | (simp [*]; done)), H', ⟨by have := HJ1.out; have := HK2.out; have := HK3.out; have := HJ11.out; omega⟩, by repeat (first | exact Drawn0.refl _ | apply Drawn0.step)⟩
                          · rw [if_neg c11] at H
                            exact absurd H (by simp)
                        · rw [if_neg c10] at H
                          exact absurd H (by simp)
                      · rw [if_neg c9] at H
                        have c9b0 : decide (x26_3 < (l0.length : Int)) = false := decide_eq_false c9
                        clear c9
                        have H' := Aside0.mk H
                        clear H
                        go_wp2
                        go_roundg k3
                        case measure => have := HJ1.out; have := HK2.out; have := HK3.out; omega
                        case rel => exact ⟨(wrap64 (x20_2 + 1)), (by first | rfl | (simp; done) | (simp [*]; done)), H', ⟨by have := HJ1.out; have := HK2.out; have := HK3.out; omega⟩, by repeat (first | exact Drawn0.refl _ | apply Drawn0.step)⟩
                · rw [if_neg c8] at H
                  exact absurd H (by simp)
              · rw [if_neg c7] at H
                exact absurd H (by simp)
            · rw [if_neg c6] at H
              have c6b0 : decide (x20_2 < (l0.length : Int)) = false := decide_eq_false c6
              clear c6
              simp only [Option.some.injEq, Prod.mk.injEq] at H
              obtain ⟨rfl, rfl⟩ := H
              go_wp2
              go_ret2
              exact ⟨by first | rfl | (simp; done) | (simp [*]; done), by repeat (first | exact Drawn0.refl _ | apply Drawn0.step)⟩

/-! ### laws_eqIntS: function 31 -/
def laws_eqIntS.l0 : Nat → List Int → List Int → Int → Option (Bool)
  | 0, _, _, _ => none
  | k + 1, x0, x1, x5 => if x5 < (x0.length : Int) then (if 0 ≤ x5 then (if x5 < (x1.length : Int) then (if (rd x0 x5) = (rd x1 x5) then (laws_eqIntS.l0 k x0 x1 (wrap64 (x5 + 1))) else (some false)) else (none)) else (none)) else (some true)
def laws_eqIntS.f (k : Nat) (l0 : List Int) (l1 : List Int) : Option (Bool) := if (l0.length : Int) = (l1.length : Int) then (laws_eqIntS.l0 k l0 l1 0) else (some false)
theorem laws_eqIntS.mono_l : ∀ k, (∀ y0 y1 y2, LeO (laws_eqIntS.l0 k y0 y1 y2) (laws_eqIntS.l0 (k + 1) y0 y1 y2))
  | 0 => fun _ _ _ r h => by simp [laws_eqIntS.l0] at h
  | k + 1 => by
    have ih0 := laws_eqIntS.mono_l k
    · intro y0 y1 y2
      unfold laws_eqIntS.l0
      repeat' first
      | (with_reducible exact ih0 _ _ _)
      | (with_reducible exact LeO.refl _)
      | (with_reducible exact LeO.none _)
      | (with_reducible refine LeO.ite ?_ ?_)
      | (with_reducible refine LeO.bind ?_ (fun _ => ?_))
      | exact ih0 _ _ _
      | exact LeO.none _
      | refine LeO.ite ?_ ?_
      | refine LeO.bind ?_ (fun _ => ?_)
theorem laws_eqIntS.mono : ∀ a0 a1 k, LeO (laws_eqIntS.f k a0 a1) (laws_eqIntS.f (k + 1) a0 a1) := by
  intro a0 a1 k
  have ih0 := laws_eqIntS.mono_l k
  unfold laws_eqIntS.f
  repeat' first
      | (with_reducible exact ih0 _ _ _)
      | (with_reducible exact LeO.refl _)
      | (with_reducible exact LeO.none _)
      | (with_reducible refine LeO.ite ?_ ?_)
      | (with_reducible refine LeO.bind ?_ (fun _ => ?_))
      | exact ih0 _ _ _
      | exact LeO.none _
      | refine LeO.ite ?_ ?_
      | refine LeO.bind ?_ (fun _ => ?_)
set_option maxHeartbeats 8000000 in
set_option maxRecDepth 100000 in
theorem laws_eqIntS.calls (k : Nat) (A0 : Option Addr) (c0 : Nat) (l0 : List Int) (A1 : Option Addr) (c1 : Nat) (l1 : List Int) (r : Bool) (w : World) (hr0 : Kd.C (Kd.int .i64) w A0 l0.length l0) (hc0 : l0.length ≤ c0) (hr1 : Kd.C (Kd.int .i64) w A1 l1.length l1) (hc1 : l1.length ≤ c1) (h : laws_eqIntS.f k l0 l1 = some r) :
    Calls Try.prog 31 #[.slice A0 l0.length c0, .slice A1 l1.length c1] w fun e w' => e = .returned (.bool r) ∧ Drawn0 w w' := by
  have HR0 := Aside0.mk hr0
  have HC0 := Aside0.mk hc0
  clear hr0 hc0
  have HR1 := Aside0.mk hr1
  have HC1 := Aside0.mk hc1
  clear hr1 hc1
  have H : (if (l0.length : Int) = (l1.length : Int) then (laws_eqIntS.l0 k l0 l1 0) else (some false)) = some r := h
  clear h
  by_cases c3 : (l0.length : Int) = (l1.length : Int)
  · rw [if_pos c3] at H
    have c3b0 : ((l0.length : Int) == (l1.length : Int)) = true := beq_iff_eq.mpr c3
    have c3b1 : ((l0.length : Int) != (l1.length : Int)) = false := bne_eq_false_iff_eq.mpr c3
    have c3b2 : (l0.length == l1.length) = true := by first | simpa using c3 | (simp at c3 ⊢; omega)
    clear c3
    have H' := Aside0.mk H
    clear H
    go_enter Try.func31, Try.ntmps31
    go_wp2
    repeat (go_quiet (fail); try go_wp2)
    go_loopg [5] k (fun kq v5 w' => ∃ (x5_1 : Int), v5 = .int .i64 x5_1 ∧ Aside0 (laws_eqIntS.l0 kq l0 l1 x5_1 = some r) ∧ Aside0 (kq ≤ k) ∧ Drawn0 w w')
    case atStart => exact ⟨(0), (by first | rfl | (simp; done) | (simp [*]; done)), H', ⟨Nat.le_refl _⟩, by repeat (first | exact Drawn0.refl _ | apply Drawn0.step)⟩
    case round =>
      clear H'
      try clear c1
      try clear p2
      try clear c3
      try clear c3b0
      try clear c3b1
      try clear c3b2
      obtain ⟨x5_1, rfl, HA, HK1, ⟨m1, rfl⟩⟩ := hrel
      cases gk with
      | zero => exact absurd HA.out (by simp [laws_eqIntS.l0])
      | succ k1 =>
        have H := HA.out
        clear HA
        simp only [laws_eqIntS.l0] at H
        by_cases c4 : x5_1 < (l0.length : Int)
        · rw [if_pos c4] at H
          have c4b0 : decide (x5_1 < (l0.length : Int)) = true := decide_eq_true c4
          clear c4
          by_cases c5 : 0 ≤ x5_1
          · rw [if_pos c5] at H
            have c5b0 : decide (0 ≤ x5_1) = true := decide_eq_true c5
            clear c5
            by_cases c6 : x5_1 < (l1.length : Int)
            · rw [if_pos c6] at H
              have c6b0 : decide (x5_1 < (l1.length : Int)) = true := decide_eq_true c6
              clear c6
              by_cases c7 : (rd l0 x5_1) = (rd l1 x5_1)
              · rw [if_pos c7] at H
                have c7b0 : ((rd l0 x5_1) == (rd l1 x5_1)) = true := beq_iff_eq.mpr c7
                have c7b1 : ((rd l0 x5_1) != (rd l1 x5_1)) = false := bne_eq_false_iff_eq.mpr c7
                clear c7
                have H' := Aside0.mk H
                clear H
                have p132 : 0 ≤ (x5_1 : Int) := of_decide_eq_true (by first | (with_reducible assumption) | assumption)
                have q132 : x5_1 < (l0.length : Int) := of_decide_eq_true (by first | (with_reducible assumption) | assumption)
                obtain ⟨ad132, e132, hx132_0⟩ := Kd.at_int HR0.out x5_1 p132 q132
                cases e132
                replace p132 := eq_true p132
                replace q132 := eq_true q132
                have p133 : 0 ≤ (x5_1 : Int) := of_decide_eq_true (by first | (with_reducible assumption) | assumption)
                have q133 : x5_1 < (l1.length : Int) := of_decide_eq_true (by first | (with_reducible assumption) | assumption)
                obtain ⟨ad133, e133, hx133_0⟩ := Kd.at_int HR1.out x5_1 p133 q133
                cases e133
                replace p133 := eq_true p133
                replace q133 := eq_true q133
                go_wp2
                repeat (go_quiet (fail); try go_wp2)
                go_roundg k1
                case measure => have := HK1.out; omega
                case rel => exact ⟨(wrap64 (x5_1 + 1)), (by first | rfl | (simp; done) | (simp [*]; done)), H', ⟨by have := HK1.out; omega⟩, by repeat (first | exact Drawn0.refl _ | apply Drawn0.step)⟩
              · rw [if_neg c7] at H
                have c7b0 : ((rd l0 x5_1) == (rd l1 x5_1)) = false := beq_eq_false_iff_ne.mpr c7
                have c7b1 : ((rd l0 x5_1) != (rd l1 x5_1)) = true := bne_iff_ne.mpr c7
                obtain rfl := Option.some.inj H
                have p132 : 0 ≤ (x5_1 : Int) := of_decide_eq_true (by first | (with_reducible assumption) | assumption)
                have q132 : x5_1 < (l0.length : Int) := of_decide_eq_true (by first | (with_reducible assumption) | assumption)
                obtain ⟨ad132, e132, hx132_0⟩ := Kd.at_int HR0.out x5_1 p132 q132
                cases e132
                replace p132 := eq_true p132
                replace q132 := eq_true q132
                have p133 : 0 ≤ (x5_1 : Int) := of_decide_eq_true (by first | (with_reducible assumption) | assumption)
                have q133 : x5_1 < (l1.length : Int) := of_decide_eq_true (by first | (with_reducible assumption) | assumption)
                obtain ⟨ad133, e133, hx133_0⟩ := Kd.at_int HR1.out x5_1 p133 q133
                cases e133
                replace p133 := eq_true p133
                replace q133 := eq_true q133
                go_wp2
                repeat (go_quiet (fail); try go_wp2)
                go_ret
                exact ⟨by first | rfl | (simp; done) | (simp [*]; done), by repeat (first | exact Drawn0.refl _ | apply Drawn0.step)⟩
            · rw [if_neg c6] at H
              exact absurd H (by simp)
          · rw [if_neg c5] at H
            exact absurd H (by simp)
        · rw [if_neg c4] at H
          have c4b0 : decide (x5_1 < (l0.length : Int)) = false := decide_eq_false c4
          clear c4
          obtain rfl := Option.some.inj H
          go_wp2
          repeat (go_quiet (fail); try go_wp2)
          go_ret
          exact ⟨by first | rfl | (simp; done) | (simp [*]; done), by repeat (first | exact Drawn0.refl _ | apply Drawn0.step)⟩
  · rw [if_neg c3] at H
    have c3b0 : ((l0.length : Int) == (l1.length : Int)) = false := beq_eq_false_iff_ne.mpr c3
    have c3b1 : ((l0.length : Int) != (l1.length : Int)) = true := bne_iff_ne.mpr c3
    have c3b2 : (l0.length == l1.length) = false := by first | simpa using c3 | (simp at c3 ⊢; omega)
    obtain rfl := Option.some.inj H
    go_enter Try.func31, Try.ntmps31
    go_wp2
    repeat (go_quiet (fail); try go_wp2)
    go_ret
    exact ⟨by first | rfl | (simp; done) | (simp [*]; done), by repeat (first | exact Drawn0.refl _ | apply Drawn0.step)⟩

end Go.Proofs.Ytaihdogejmdjnaa.PFnExactFitsRing
