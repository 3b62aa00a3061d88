-- Written by a program of this project (myprint.py, by way of the kit's printer). Not trusted: Lean checks it.
-- shrunk
import Derived.Test.YtdbnjjpkpaifcaaPFnExactAllSamex0
import Derived.Test.YtdbnjjpkpaifcaaPFnExactAllSamex7
namespace Go.Proofs.Ytdbnjjpkpaifcaa.PFnExactAllSame
open Go.RowKit Go.Proofs.YtdbnjjpkpaifcaaW.PrintWords Go.Proofs.YtdbnjjpkpaifcaaW.PrintLast Go.Proofs.YtdbnjjpkpaifcaaW.PrintMore
attribute [local go_sem] max2_int min2_int max_two min_two max_three min_three max_four min_four   -- for this text's walks alone
set_option linter.unusedVariables false
set_option linter.unusedSimpArgs false

/-! ### impl_allIn: function 51 -/
def impl_allIn.l0 : Nat → Int → Int → List Int → Int → Int → Option (Bool)
 | 0, _, _, _, _, _ => none
 | k + 1, x1, x2, x9, x10, x11 => if x11 < x10 then (if 0 ≤ x11 then (if x11 < (x9.length : Int) then ((impl_in.f (rd x9 x11) x1 x2).bind fun t284 => (if t284 = true then (impl_allIn.l0 k x1 x2 x9 x10 (wrap64 (x11 + 1))) else (some false))) else (none)) else (none)) else (some true)
def impl_allIn.f (k : Nat) (l0 : List Int) (a1 : Int) (a2 : Int) : Option (Bool) := impl_allIn.l0 k a1 a2 l0 (l0.length : Int) 0
theorem impl_allIn.mono_l : ∀ k, (∀ y0 y1 y2 y3 y4, LeO (impl_allIn.l0 k y0 y1 y2 y3 y4) (impl_allIn.l0 (k + 1) y0 y1 y2 y3 y4))
 | 0 => fun _ _ _ _ _ r h => by simp [impl_allIn.l0] at h
 | k + 1 => by
  have ih0 := impl_allIn.mono_l k
  ·intro y0 y1 y2 y3 y4
   unfold impl_allIn.l0
   repeat' first
   | (with_reducible exact ih0 _ _ _ _ _)
   | (with_reducible exact LeO.refl _)
   | (with_reducible exact LeO.none _)
   | (with_reducible refine LeO.ite ?_ ?_)
   | (with_reducible refine LeO.bind ?_ (fun _ => ?_))
   | exact ih0 _ _ _ _ _
   | exact LeO.none _
   | refine LeO.ite ?_ ?_
   | refine LeO.bind ?_ (fun _ => ?_)
theorem impl_allIn.mono : ∀ a0 a1 a2 k, LeO (impl_allIn.f k a0 a1 a2) (impl_allIn.f (k + 1) a0 a1 a2) := by
 intro a0 a1 a2 k
 have ih0 := impl_allIn.mono_l k
 unfold impl_allIn.f
 repeat' first
   | (with_reducible exact ih0 _ _ _ _ _)
   | (with_reducible exact LeO.refl _)
   | (with_reducible exact LeO.none _)
   | (with_reducible refine LeO.ite ?_ ?_)
   | (with_reducible refine LeO.bind ?_ (fun _ => ?_))
   | exact ih0 _ _ _ _ _
   | exact LeO.none _
   | refine LeO.ite ?_ ?_
   | refine LeO.bind ?_ (fun _ => ?_)
set_option maxHeartbeats 8000000 in
set_option maxRecDepth 100000 in
theorem impl_allIn.calls (k : Nat) (A0 : Option Addr) (c0 : Nat) (l0 : List Int) (a1 : Int) (a2 : Int) (r : Bool) (w : World) (hr0 : Kd.C (Kd.int .i64) w A0 l0.length l0) (hc0 : l0.length ≤ c0) (h : impl_allIn.f k l0 a1 a2 = some r) :
  Calls Try.prog 51 #[.slice A0 l0.length c0, .int .i64 a1, .int .i64 a2] w fun e w' => e = .returned (.bool r) ∧ Drawn0 w w' := by
 have HR0 := Aside0.mk hr0
 have HC0 := Aside0.mk hc0
 clear hr0 hc0
 have H : (impl_allIn.l0 k a1 a2 l0 (l0.length : Int) 0) = some r := h
 clear h
 have H' := Aside0.mk H
 clear H
 go_enter Try.func51, Try.ntmps51
 go_wp2
 go_loopg [11] k (fun kq v11 w' => ∃ (x11_1 : Int), v11 = .int .i64 x11_1 ∧ Aside0 (impl_allIn.l0 kq a1 a2 l0 (l0.length : Int) x11_1 = some r) ∧ Aside0 (kq ≤ k) ∧ Drawn0 w w')
 case atStart => exact ⟨(0), (by first | rfl | (simp; done) | (simp [*]; done)), H', ⟨Nat.le_refl _⟩, by repeat (first | exact Drawn0.refl _ | apply Drawn0.step)⟩
 case round =>
  clear H'
  try clear p2
  obtain ⟨x11_1, rfl, HA, HK1, ⟨m1, rfl⟩⟩ := hrel
  cases gk with
  | zero => exact absurd HA.out (by simp [impl_allIn.l0])
  | succ k1 =>
   have H := HA.out
   clear HA
   simp only [impl_allIn.l0] at H
   by_cases c4 : x11_1 < (l0.length : Int)
   ·rw [if_pos c4] at H
    have c4b0 : decide (x11_1 < (l0.length : Int)) = true := decide_eq_true c4
    clear c4
    by_cases c5 : 0 ≤ x11_1
    ·rw [if_pos c5] at H
     have c5b0 : decide (0 ≤ x11_1) = true := decide_eq_true c5
     clear c5
     by_cases c6 : x11_1 < (l0.length : Int)
     ·rw [if_pos c6] at H
      have c6b0 : decide (x11_1 < (l0.length : Int)) = true := decide_eq_true c6
      clear c6
      replace H := Option.bind_eq_some_iff.mp H
      obtain ⟨t284, A70, H⟩ := H
      replace H : (if t284 = true then (impl_allIn.l0 k1 a1 a2 l0 (l0.length : Int) (wrap64 (x11_1 + 1))) else (some false)) = some r := H
      have A7 := Aside0.mk A70
      clear A70
      by_cases c8 : t284 = true
      ·subst c8
       have H1 : (impl_allIn.l0 k1 a1 a2 l0 (l0.length : Int) (wrap64 (x11_1 + 1))) = some r := by rw [if_pos rfl] at H; exact H
       clear H
       have H := H1
       clear H1
       have H' := Aside0.mk H
       clear H
       have p283 : 0 ≤ (x11_1 : Int) := of_decide_eq_true (by first | (with_reducible assumption) | assumption)
       have q283 : x11_1 < (l0.length : Int) := of_decide_eq_true (by first | (with_reducible assumption) | assumption)
       obtain ⟨ad283, e283, hx283_0⟩ := Kd.at_int HR0.out x11_1 p283 q283
       cases e283
       replace p283 := eq_true p283
       replace q283 := eq_true q283
       go_wp2_with (first | ((with_reducible refine gate_callee (f := 49) rfl ?_); refine goesL_ (some 18) rfl rfl Try.func49 (by kernel_rfl) rfl #[.int .i64 (rd l0 x11_1), .int .i64 a1, .int .i64 a2] rfl (by (try simp only [List.map_toArray, List.map_cons, List.map_nil]); first | done | rfl | (simp only [List.length_drop, List.length_take]; rfl)) ?_; (with_reducible refine (impl_in.calls (rd l0 x11_1) a1 a2 true _ A7.out).mono ?_); rintro e w' ⟨rfl, ⟨nd, rfl⟩⟩; refine ⟨_, rfl, ?_⟩))
       go_roundg k1
       case measure => have := HK1.out; omega
       case rel => exact ⟨(wrap64 (x11_1 + 1)), (by first | rfl | (simp; done) | (simp [*]; done)), H', ⟨by have := HK1.out; omega⟩, by repeat (first | exact Drawn0.refl _ | apply Drawn0.step)⟩
      ·replace c8 := Bool.eq_false_iff.mpr c8
       subst c8
       have H1 : (some false) = some r := by rw [if_neg (show ¬ (false = true) by decide)] at H; exact H
       clear H
       have H := H1
       clear H1
       obtain rfl := Option.some.inj H
       have p283 : 0 ≤ (x11_1 : Int) := of_decide_eq_true (by first | (with_reducible assumption) | assumption)
       have q283 : x11_1 < (l0.length : Int) := of_decide_eq_true (by first | (with_reducible assumption) | assumption)
       obtain ⟨ad283, e283, hx283_0⟩ := Kd.at_int HR0.out x11_1 p283 q283
       cases e283
       replace p283 := eq_true p283
       replace q283 := eq_true q283
       go_wp2_with (first | ((with_reducible refine gate_callee (f := 49) rfl ?_); refine goesL_ (some 18) rfl rfl Try.func49 (by kernel_rfl) rfl #[.int .i64 (rd l0 x11_1), .int .i64 a1, .int .i64 a2] rfl (by (try simp only [List.map_toArray, List.map_cons, List.map_nil]); first | done | rfl | (simp only [List.length_drop, List.length_take]; rfl)) ?_; (with_reducible refine (impl_in.calls (rd l0 x11_1) a1 a2 false _ A7.out).mono ?_); rintro e w' ⟨rfl, ⟨nd, rfl⟩⟩; refine ⟨_, rfl, ?_⟩))
       go_ret
       exact ⟨by first | rfl | (simp; done) | (simp [*]; done), by repeat (first | exact Drawn0.refl _ | apply Drawn0.step)⟩
     ·rw [if_neg c6] at H
      exact absurd H (by simp)
    ·rw [if_neg c5] at H
     exact absurd H (by simp)
   ·rw [if_neg c4] at H
    have c4b0 : decide (x11_1 < (l0.length : Int)) = false := decide_eq_false c4
    clear c4
    obtain rfl := Option.some.inj H
    go_wp2
    go_ret
    exact ⟨by first | rfl | (simp; done) | (simp [*]; done), by repeat (first | exact Drawn0.refl _ | apply Drawn0.step)⟩

/-! ### cmp_isNaN_int: function 68 -/
def cmp_isNaN_int.f (a0 : Int) : Option (Bool) := some (a0 != a0)
set_option maxHeartbeats 8000000 in
set_option maxRecDepth 100000 in
theorem cmp_isNaN_int.calls (a0 : Int) (r : Bool) (w : World) (h : cmp_isNaN_int.f a0 = some r) :
  Calls Try.prog 68 #[.int .i64 a0] w fun e w' => e = .returned (.bool r) ∧ Drawn0 w w' := by
 have H : (some (a0 != a0)) = some r := h
 clear h
 obtain rfl := Option.some.inj H
 go_enter Try.func68, Try.ntmps68
 go_wp2
 go_ret
 exact ⟨by first | rfl | (simp; done) | (simp [*]; done), by repeat (first | exact Drawn0.refl _ | apply Drawn0.step)⟩

/-! ### cmp_Compare_int: function 62 -/
def cmp_Compare_int.f (a0 : Int) (a1 : Int) : Option (Int) := (cmp_isNaN_int.f a0).bind fun t285 => ((cmp_isNaN_int.f a1).bind fun t286 => (if t285 = true then (if t286 = true then (some 0) else (some (-1))) else (if t286 = true then (some 1) else (if a0 < a1 then (some (-1)) else (if a0 > a1 then (some 1) else (some 0))))))
set_option maxHeartbeats 8000000 in
set_option maxRecDepth 100000 in
theorem cmp_Compare_int.calls (a0 : Int) (a1 : Int) (r : Int) (w : World) (h : cmp_Compare_int.f a0 a1 = some r) :
  Calls Try.prog 62 #[.int .i64 a0, .int .i64 a1] w fun e w' => e = .returned (.int .i64 r) ∧ Drawn0 w w' := by
 have H : ((cmp_isNaN_int.f a0).bind fun t285 => ((cmp_isNaN_int.f a1).bind fun t286 => (if t285 = true then (if t286 = true then (some 0) else (some (-1))) else (if t286 = true then (some 1) else (if a0 < a1 then (some (-1)) else (if a0 > a1 then (some 1) else (some 0))))))) = some r := h
 clear h
 replace H := Option.bind_eq_some_iff.mp H
 obtain ⟨t285, A30, H⟩ := H
 replace H : ((cmp_isNaN_int.f a1).bind fun t286 => (if t285 = true then (if t286 = true then (some 0) else (some (-1))) else (if t286 = true then (some 1) else (if a0 < a1 then (some (-1)) else (if a0 > a1 then (some 1) else (some 0)))))) = some r := H
 have A3 := Aside0.mk A30
 clear A30
 replace H := Option.bind_eq_some_iff.mp H
 obtain ⟨t286, A40, H⟩ := H
 replace H : (if t285 = true then (if t286 = true then (some 0) else (some (-1))) else (if t286 = true then (some 1) else (if a0 < a1 then (some (-1)) else (if a0 > a1 then (some 1) else (some 0))))) = some r := H
 have A4 := Aside0.mk A40
 clear A40
 by_cases c5 : t285 = true
 ·subst c5
  have H1 : (if t286 = true then (some 0) else (some (-1))) = some r := by rw [if_pos rfl] at H; exact H
  clear H
  have H := H1
  clear H1
  by_cases c6 : t286 = true
  ·subst c6
   have H1 : (some 0) = some r := by rw [if_pos rfl] at H; exact H
   clear H
   have H := H1
   clear H1
   obtain rfl := Option.some.inj H
   go_enter Try.func62, Try.ntmps62
   go_wp2_with (first | ((with_reducible refine gate_callee (f := 68) rfl ?_); refine goesL_ (some 8) rfl rfl Try.func68 (by kernel_rfl) rfl #[.int .i64 a0] rfl (by (try simp only [List.map_toArray, List.map_cons, List.map_nil]); first | done | rfl | (simp only [List.length_drop, List.length_take]; rfl)) ?_; (with_reducible refine (cmp_isNaN_int.calls a0 true _ A3.out).mono ?_); rintro e w' ⟨rfl, ⟨nd, rfl⟩⟩; refine ⟨_, rfl, ?_⟩) | ((with_reducible refine gate_callee (f := 68) rfl ?_); refine goesL_ (some 10) rfl rfl Try.func68 (by kernel_rfl) rfl #[.int .i64 a1] rfl (by (try simp only [List.map_toArray, List.map_cons, List.map_nil]); first | done | rfl | (simp only [List.length_drop, List.length_take]; rfl)) ?_; (with_reducible refine (cmp_isNaN_int.calls a1 true _ A4.out).mono ?_); rintro e w' ⟨rfl, ⟨nd, rfl⟩⟩; refine ⟨_, rfl, ?_⟩))
   go_ret
   exact ⟨by first | rfl | (simp; done) | (simp [*]; done), by repeat (first | exact Drawn0.refl _ | apply Drawn0.step)⟩
  ·replace c6 := Bool.eq_false_iff.mpr c6
   subst c6
   have H1 : (some (-1)) = some r := by rw [if_neg (show ¬ (false = true) by decide)] at H; exact H
   clear H
   have H := H1
   clear H1
   obtain rfl := Option.some.inj H
   go_enter Try.func62, Try.ntmps62
   go_wp2_with (first | ((with_reducible refine gate_callee (f := 68) rfl ?_); refine goesL_ (some 8) rfl rfl Try.func68 (by kernel_rfl) rfl #[.int .i64 a0] rfl (by (try simp only [List.map_toArray, List.map_cons, List.map_nil]); first | done | rfl | (simp only [List.length_drop, List.length_take]; rfl)) ?_; (with_reducible refine (cmp_isNaN_int.calls a0 true _ A3.out).mono ?_); rintro e w' ⟨rfl, ⟨nd, rfl⟩⟩; refine ⟨_, rfl, ?_⟩) | ((with_reducible refine gate_callee (f := 68) rfl ?_); refine goesL_ (some 10) rfl rfl Try.func68 (by kernel_rfl) rfl #[.int .i64 a1] rfl (by (try simp only [List.map_toArray, List.map_cons, List.map_nil]); first | done | rfl | (simp only [List.length_drop, List.length_take]; rfl)) ?_; (with_reducible refine (cmp_isNaN_int.calls a1 false _ A4.out).mono ?_); rintro e w' ⟨rfl, ⟨nd, rfl⟩⟩; refine ⟨_, rfl, ?_⟩))
   go_ret
   exact ⟨by first | rfl | (simp; done) | (simp [*]; done), by repeat (first | exact Drawn0.refl _ | apply Drawn0.step)⟩
 ·replace c5 := Bool.eq_false_iff.mpr c5
  subst c5
  have H1 : (if t286 = true then (some 1) else (if a0 < a1 then (some (-1)) else (if a0 > a1 then (some 1) else (some 0)))) = some r := by rw [if_neg (show ¬ (false = true) by decide)] at H; exact H
  clear H
  have H := H1
  clear H1
  by_cases c7 : t286 = true
  ·subst c7
   have H1 : (some 1) = some r := by rw [if_pos rfl] at H; exact H
   clear H
   have H := H1
   clear H1
   obtain rfl := Option.some.inj H
   go_enter Try.func62, Try.ntmps62
   go_wp2_with (first | ((with_reducible refine gate_callee (f := 68) rfl ?_); refine goesL_ (some 8) rfl rfl Try.func68 (by kernel_rfl) rfl #[.int .i64 a0] rfl (by (try simp only [List.map_toArray, List.map_cons, List.map_nil]); first | done | rfl | (simp only [List.length_drop, List.length_take]; rfl)) ?_; (with_reducible refine (cmp_isNaN_int.calls a0 false _ A3.out).mono ?_); rintro e w' ⟨rfl, ⟨nd, rfl⟩⟩; refine ⟨_, rfl, ?_⟩) | ((with_reducible refine gate_callee (f := 68) rfl ?_); refine goesL_ (some 10) rfl rfl Try.func68 (by kernel_rfl) rfl #[.int .i64 a1] rfl (by (try simp only [List.map_toArray, List.map_cons, List.map_nil]); first | done | rfl | (simp only [List.length_drop, List.length_take]; rfl)) ?_; (with_reducible refine (cmp_isNaN_int.calls a1 true _ A4.out).mono ?_); rintro e w' ⟨rfl, ⟨nd, rfl⟩⟩; refine ⟨_, rfl, ?_⟩))
   go_ret
   exact ⟨by first | rfl | (simp; done) | (simp [*]; done), by repeat (first | exact Drawn0.refl _ | apply Drawn0.step)⟩
  ·replace c7 := Bool.eq_false_iff.mpr c7
   subst c7
   have H1 : (if a0 < a1 then (some (-1)) else (if a0 > a1 then (some 1) else (some 0))) = some r := by rw [if_neg (show ¬ (false = true) by decide)] at H; exact H
   clear H
   have H := H1
   clear H1
   by_cases c8 : a0 < a1
   ·rw [if_pos c8] at H
    have c8b0 : decide (a0 < a1) = true := decide_eq_true c8
    clear c8
    obtain rfl := Option.some.inj H
    go_enter Try.func62, Try.ntmps62
    go_wp2_with (first | ((with_reducible refine gate_callee (f := 68) rfl ?_); refine goesL_ (some 8) rfl rfl Try.func68 (by kernel_rfl) rfl #[.int .i64 a0] rfl (by (try simp only [List.map_toArray, List.map_cons, List.map_nil]); first | done | rfl | (simp only [List.length_drop, List.length_take]; rfl)) ?_; (with_reducible refine (cmp_isNaN_int.calls a0 false _ A3.out).mono ?_); rintro e w' ⟨rfl, ⟨nd, rfl⟩⟩; refine ⟨_, rfl, ?_⟩) | ((with_reducible refine gate_callee (f := 68) rfl ?_); refine goesL_ (some 10) rfl rfl Try.func68 (by kernel_rfl) rfl #[.int .i64 a1] rfl (by (try simp only [List.map_toArray, List.map_cons, List.map_nil]); first | done | rfl | (simp only [List.length_drop, List.length_take]; rfl)) ?_; (with_reducible refine (cmp_isNaN_int.calls a1 false _ A4.out).mono ?_); rintro e w' ⟨rfl, ⟨nd, rfl⟩⟩; refine ⟨_, rfl, ?_⟩))
    go_ret
    exact ⟨by first | rfl | (simp; done) | (simp [*]; done), by repeat (first | exact Drawn0.refl _ | apply Drawn0.step)⟩
   ·rw [if_neg c8] at H
    have c8b0 : decide (a0 < a1) = false := decide_eq_false c8
    clear c8
    by_cases c9 : a0 > a1
    ·rw [if_pos c9] at H
     have c9b0 : decide (a1 < a0) = true := decide_eq_true c9
     clear c9
     obtain rfl := Option.some.inj H
     go_enter Try.func62, Try.ntmps62
     go_wp2_with (first | ((with_reducible refine gate_callee (f := 68) rfl ?_); refine goesL_ (some 8) rfl rfl Try.func68 (by kernel_rfl) rfl #[.int .i64 a0] rfl (by (try simp only [List.map_toArray, List.map_cons, List.map_nil]); first | done | rfl | (simp only [List.length_drop, List.length_take]; rfl)) ?_; (with_reducible refine (cmp_isNaN_int.calls a0 false _ A3.out).mono ?_); rintro e w' ⟨rfl, ⟨nd, rfl⟩⟩; refine ⟨_, rfl, ?_⟩) | ((with_reducible refine gate_callee (f := 68) rfl ?_); refine goesL_ (some 10) rfl rfl Try.func68 (by kernel_rfl) rfl #[.int .i64 a1] rfl (by (try simp only [List.map_toArray, List.map_cons, List.map_nil]); first | done | rfl | (simp only [List.length_drop, List.length_take]; rfl)) ?_; (with_reducible refine (cmp_isNaN_int.calls a1 false _ A4.out).mono ?_); rintro e w' ⟨rfl, ⟨nd, rfl⟩⟩; refine ⟨_, rfl, ?_⟩))
     go_ret
     exact ⟨by first | rfl | (simp; done) | (simp [*]; done), by repeat (first | exact Drawn0.refl _ | apply Drawn0.step)⟩
    ·rw [if_neg c9] at H
     have c9b0 : decide (a1 < a0) = false := decide_eq_false c9
     clear c9
     obtain rfl := Option.some.inj H
     go_enter Try.func62, Try.ntmps62
     go_wp2_with (first | ((with_reducible refine gate_callee (f := 68) rfl ?_); refine goesL_ (some 8) rfl rfl Try.func68 (by kernel_rfl) rfl #[.int .i64 a0] rfl (by (try simp only [List.map_toArray, List.map_cons, List.map_nil]); first | done | rfl | (simp only [List.length_drop, List.length_take]; rfl)) ?_; (with_reducible refine (cmp_isNaN_int.calls a0 false _ A3.out).mono ?_); rintro e w' ⟨rfl, ⟨nd, rfl⟩⟩; refine ⟨_, rfl, ?_⟩) | ((with_reducible refine gate_callee (f := 68) rfl ?_); refine goesL_ (some 10) rfl rfl Try.func68 (by kernel_rfl) rfl #[.int .i64 a1] rfl (by (try simp only [List.map_toArray, List.map_cons, List.map_nil]); first | done | rfl | (simp only [List.length_drop, List.length_take]; rfl)) ?_; (with_reducible refine (cmp_isNaN_int.calls a1 false _ A4.out).mono ?_); rintro e w' ⟨rfl, ⟨nd, rfl⟩⟩; refine ⟨_, rfl, ?_⟩))
     go_ret
     exact ⟨by first | rfl | (simp; done) | (simp [*]; done), by repeat (first | exact Drawn0.refl _ | apply Drawn0.step)⟩

/-! ### slices_Compare_int_int: function 52 -/
def slices_Compare_int_int.l0 : Nat → List Int → List Int → List Int → Int → Int → Option (Int)
 | 0, _, _, _, _, _ => none
 | k + 1, x0, x1, x9, x10, x11 => if x11 < x10 then (if 0 ≤ x11 then (if x11 < (x9.length : Int) then (if x11 ≥ (x1.length : Int) then (some 1) else (if x11 < (x1.length : Int) then ((cmp_Compare_int.f (rd x9 x11) (rd x1 x11)).bind fun t289 => (if t289 = 0 then (slices_Compare_int_int.l0 k x0 x1 x9 x10 (wrap64 (x11 + 1))) else (some t289))) else (none))) else (none)) else (none)) else (if (x0.length : Int) < (x1.length : Int) then (some (-1)) else (some 0))
def slices_Compare_int_int.f (k : Nat) (l0 : List Int) (l1 : List Int) : Option (Int) := slices_Compare_int_int.l0 k l0 l1 l0 (l0.length : Int) 0
theorem slices_Compare_int_int.mono_l : ∀ k, (∀ y0 y1 y2 y3 y4, LeO (slices_Compare_int_int.l0 k y0 y1 y2 y3 y4) (slices_Compare_int_int.l0 (k + 1) y0 y1 y2 y3 y4))
 | 0 => fun _ _ _ _ _ r h => by simp [slices_Compare_int_int.l0] at h
 | k + 1 => by
  have ih0 := slices_Compare_int_int.mono_l k
  ·intro y0 y1 y2 y3 y4
   unfold slices_Compare_int_int.l0
   repeat' first
   | (with_reducible exact ih0 _ _ _ _ _)
   | (with_reducible exact LeO.refl _)
   | (with_reducible exact LeO.none _)
   | (with_reducible refine LeO.ite ?_ ?_)
   | (with_reducible refine LeO.bind ?_ (fun _ => ?_))
   | exact ih0 _ _ _ _ _
   | exact LeO.none _
   | refine LeO.ite ?_ ?_
   | refine LeO.bind ?_ (fun _ => ?_)
theorem slices_Compare_int_int.mono : ∀ a0 a1 k, LeO (slices_Compare_int_int.f k a0 a1) (slices_Compare_int_int.f (k + 1) a0 a1) := by
 intro a0 a1 k
 have ih0 := slices_Compare_int_int.mono_l k
 unfold slices_Compare_int_int.f
 repeat' first
   | (with_reducible exact ih0 _ _ _ _ _)
   | (with_reducible exact LeO.refl _)
   | (with_reducible exact LeO.none _)
   | (with_reducible refine LeO.ite ?_ ?_)
   | (with_reducible refine LeO.bind ?_ (fun _ => ?_))
   | exact ih0 _ _ _ _ _
   | exact LeO.none _
   | refine LeO.ite ?_ ?_
   | refine LeO.bind ?_ (fun _ => ?_)
set_option maxHeartbeats 8000000 in
set_option maxRecDepth 100000 in
theorem slices_Compare_int_int.calls (k : Nat) (A0 : Option Addr) (c0 : Nat) (l0 : List Int) (A1 : Option Addr) (c1 : Nat) (l1 : List Int) (r : Int) (w : World) (hr0 : Kd.C (Kd.int .i64) w A0 l0.length l0) (hc0 : l0.length ≤ c0) (hr1 : Kd.C (Kd.int .i64) w A1 l1.length l1) (hc1 : l1.length ≤ c1) (h : slices_Compare_int_int.f k l0 l1 = some r) :
  Calls Try.prog 52 #[.slice A0 l0.length c0, .slice A1 l1.length c1] w fun e w' => e = .returned (.int .i64 r) ∧ Drawn0 w w' := by
 have HR0 := Aside0.mk hr0
 have HC0 := Aside0.mk hc0
 clear hr0 hc0
 have HR1 := Aside0.mk hr1
 have HC1 := Aside0.mk hc1
 clear hr1 hc1
 have H : (slices_Compare_int_int.l0 k l0 l1 l0 (l0.length : Int) 0) = some r := h
 clear h
 have H' := Aside0.mk H
 clear H
 go_enter Try.func52, Try.ntmps52
 go_wp2
 go_loopg [11] k (fun kq v11 w' => ∃ (x11_1 : Int), v11 = .int .i64 x11_1 ∧ Aside0 (slices_Compare_int_int.l0 kq l0 l1 l0 (l0.length : Int) x11_1 = some r) ∧ Aside0 (kq ≤ k) ∧ Drawn0 w w')
 case atStart => exact ⟨(0), (by first | rfl | (simp; done) | (simp [*]; done)), H', ⟨Nat.le_refl _⟩, by repeat (first | exact Drawn0.refl _ | apply Drawn0.step)⟩
 case round =>
  clear H'
  try clear c1
  try clear p2
  obtain ⟨x11_1, rfl, HA, HK1, ⟨m1, rfl⟩⟩ := hrel
  cases gk with
  | zero => exact absurd HA.out (by simp [slices_Compare_int_int.l0])
  | succ k1 =>
   have H := HA.out
   clear HA
   simp only [slices_Compare_int_int.l0] at H
   by_cases c3 : x11_1 < (l0.length : Int)
   ·rw [if_pos c3] at H
    have c3b0 : decide (x11_1 < (l0.length : Int)) = true := decide_eq_true c3
    clear c3
    by_cases c4 : 0 ≤ x11_1
    ·rw [if_pos c4] at H
     have c4b0 : decide (0 ≤ x11_1) = true := decide_eq_true c4
     clear c4
     by_cases c5 : x11_1 < (l0.length : Int)
     ·rw [if_pos c5] at H
      have c5b0 : decide (x11_1 < (l0.length : Int)) = true := decide_eq_true c5
      clear c5
      by_cases c6 : x11_1 ≥ (l1.length : Int)
      ·rw [if_pos c6] at H
       have c6b0 : decide ((l1.length : Int) ≤ x11_1) = true := decide_eq_true c6
       clear c6
       obtain rfl := Option.some.inj H
       have p287 : 0 ≤ (x11_1 : Int) := of_decide_eq_true (by first | (with_reducible assumption) | assumption)
       have q287 : x11_1 < (l0.length : Int) := of_decide_eq_true (by first | (with_reducible assumption) | assumption)
       obtain ⟨ad287, e287, hx287_0⟩ := Kd.at_int HR0.out x11_1 p287 q287
       cases e287
       replace p287 := eq_true p287
       replace q287 := eq_true q287
       go_wp2
       go_ret
       exact ⟨by first | rfl | (simp; done) | (simp [*]; done), by repeat (first | exact Drawn0.refl _ | apply Drawn0.step)⟩
      ·rw [if_neg c6] at H
       have c6b0 : decide ((l1.length : Int) ≤ x11_1) = false := decide_eq_false c6
       clear c6
       by_cases c7 : x11_1 < (l1.length : Int)
       ·rw [if_pos c7] at H
        have c7b0 : decide (x11_1 < (l1.length : Int)) = true := decide_eq_true c7
        clear c7
        replace H := Option.bind_eq_some_iff.mp H
        obtain ⟨t289, A80, H⟩ := H
        replace H : (if t289 = 0 then (slices_Compare_int_int.l0 k1 l0 l1 l0 (l0.length : Int) (wrap64 (x11_1 + 1))) else (some t289)) = some r := H
        have A8 := Aside0.mk A80
        clear A80
        by_cases c9 : t289 = 0
        ·rw [if_pos c9] at H
         have c9b0 : (t289 == 0) = true := beq_iff_eq.mpr c9
         have c9b1 : (t289 != 0) = false := bne_eq_false_iff_eq.mpr c9
         clear c9
         have H' := Aside0.mk H
         clear H
         have p287 : 0 ≤ (x11_1 : Int) := of_decide_eq_true (by first | (with_reducible assumption) | assumption)
         have q287 : x11_1 < (l0.length : Int) := of_decide_eq_true (by first | (with_reducible assumption) | assumption)
         obtain ⟨ad287, e287, hx287_0⟩ := Kd.at_int HR0.out x11_1 p287 q287
         cases e287
         replace p287 := eq_true p287
         replace q287 := eq_true q287
         have p288 : 0 ≤ (x11_1 : Int) := of_decide_eq_true (by first | (with_reducible assumption) | assumption)
         have q288 : x11_1 < (l1.length : Int) := of_decide_eq_true (by first | (with_reducible assumption) | assumption)
         obtain ⟨ad288, e288, hx288_0⟩ := Kd.at_int HR1.out x11_1 p288 q288
         cases e288
         replace p288 := eq_true p288
         replace q288 := eq_true q288
         go_wp2_with (first | ((with_reducible refine gate_callee (f := 62) rfl ?_); refine goesL_ (some 26) rfl rfl Try.func62 (by kernel_rfl) rfl #[.int .i64 (rd l0 x11_1), .int .i64 (rd l1 x11_1)] rfl (by (try simp only [List.map_toArray, List.map_cons, List.map_nil]); first | done | rfl | (simp only [List.length_drop, List.length_take]; rfl)) ?_; (with_reducible refine (cmp_Compare_int.calls (rd l0 x11_1) (rd l1 x11_1) t289 _ A8.out).mono ?_); rintro e w' ⟨rfl, ⟨nd, rfl⟩⟩; refine ⟨_, rfl, ?_⟩))
         go_roundg k1
         case measure => have := HK1.out; omega
         case rel => exact ⟨(wrap64 (x11_1 + 1)), (by first | rfl | (simp; done) | (simp [*]; done)), H', ⟨by have := HK1.out; omega⟩, by repeat (first | exact Drawn0.refl _ | apply Drawn0.step)⟩
        ·rw [if_neg c9] at H
         have c9b0 : (t289 == 0) = false := beq_eq_false_iff_ne.mpr c9
         have c9b1 : (t289 != 0) = true := bne_iff_ne.mpr c9
         obtain rfl := Option.some.inj H
         have p287 : 0 ≤ (x11_1 : Int) := of_decide_eq_true (by first | (with_reducible assumption) | assumption)
         have q287 : x11_1 < (l0.length : Int) := of_decide_eq_true (by first | (with_reducible assumption) | assumption)
         obtain ⟨ad287, e287, hx287_0⟩ := Kd.at_int HR0.out x11_1 p287 q287
         cases e287
         replace p287 := eq_true p287
         replace q287 := eq_true q287
         have p288 : 0 ≤ (x11_1 : Int) := of_decide_eq_true (by first | (with_reducible assumption) | assumption)
         have q288 : x11_1 < (l1.length : Int) := of_decide_eq_true (by first | (with_reducible assumption) | assumption)
         obtain ⟨ad288, e288, hx288_0⟩ := Kd.at_int HR1.out x11_1 p288 q288
         cases e288
         replace p288 := eq_true p288
         replace q288 := eq_true q288
         go_wp2_with (first | ((with_reducible refine gate_callee (f := 62) rfl ?_); refine goesL_ (some 26) rfl rfl Try.func62 (by kernel_rfl) rfl #[.int .i64 (rd l0 x11_1), .int .i64 (rd l1 x11_1)] rfl (by (try simp only [List.map_toArray, List.map_cons, List.map_nil]); first | done | rfl | (simp only [List.length_drop, List.length_take]; rfl)) ?_; (with_reducible refine (cmp_Compare_int.calls (rd l0 x11_1) (rd l1 x11_1) t289 _ A8.out).mono ?_); rintro e w' ⟨rfl, ⟨nd, rfl⟩⟩; refine ⟨_, rfl, ?_⟩))
         go_ret
         exact ⟨by first | rfl | (simp; done) | (simp [*]; done), by repeat (first | exact Drawn0.refl _ | apply Drawn0.step)⟩
       ·rw [if_neg c7] at H
        exact absurd H (by simp)
     ·rw [if_neg c5] at H
      exact absurd H (by simp)
    ·rw [if_neg c4] at H
     exact absurd H (by simp)
   ·rw [if_neg c3] at H
    have c3b0 : decide (x11_1 < (l0.length : Int)) = false := decide_eq_false c3
    clear c3
    by_cases c10 : (l0.length : Int) < (l1.length : Int)
    ·rw [if_pos c10] at H
     have c10b0 : decide ((l0.length : Int) < (l1.length : Int)) = true := decide_eq_true c10
     have c10b1 : decide (l0.length < l1.length) = true := decide_eq_true (Int.ofNat_lt.mp c10)
     clear c10
     obtain rfl := Option.some.inj H
     go_wp2
     go_ret
     exact ⟨by first | rfl | (simp; done) | (simp [*]; done), by repeat (first | exact Drawn0.refl _ | apply Drawn0.step)⟩
    ·rw [if_neg c10] at H
     have c10b0 : decide ((l0.length : Int) < (l1.length : Int)) = false := decide_eq_false c10
     have c10b1 : decide (l0.length < l1.length) = false := decide_eq_false (fun h => c10 (Int.ofNat_lt.mpr h))
     clear c10
     obtain rfl := Option.some.inj H
     go_wp2
     go_ret
     exact ⟨by first | rfl | (simp; done) | (simp [*]; done), by repeat (first | exact Drawn0.refl _ | apply Drawn0.step)⟩

/-! ### impl_goodLinks: function 28 -/
theorem w64y (x : Int) (h0 : -9223372036854775808 ≤ x) (h1 : x ≤ 9223372036854775807) : wrap64 x = x := by
 unfold wrap64
 omega
/-- A link lies within the nodes and rises. -/
def lkC (m : Int) (l : List Int) : Bool := decide (l.length = 2) && (decide (0 ≤ rd l 0 ∧ rd l 0 ≤ m) && (decide (0 ≤ rd l 1 ∧ rd l 1 ≤ m) && decide (rd l 0 < rd l 1)))
/-- A link stands behind another one. -/
def lnC (p l : List Int) : Bool := decide (rd p 0 < rd l 0 ∨ rd p 0 = rd l 0 ∧ rd p 1 < rd l 1)
def okAtC (m : Int) (ls : List (List Int)) (i : Nat) : Bool := lkC m (rd_L1 ls i) && (decide (i = 0) || lnC (rd_L1 ls ((i : Int) - 1)) (rd_L1 ls i))
def linksC (n : Int) (ls : List (List Int)) : Bool := (List.range ls.length).all (okAtC (wrap64 (n - 1)) ls) && (decide (1 ≤ n ∧ n ≤ 6) && decide (ls.length ≤ 15))

def impl_goodLinks.f (a0 : Int) (l1 : List (List Int)) : Option Bool := if l1.length ≤ 1000000000 then some (linksC a0 l1) else none
theorem allIn2 (l : List Int) (lo hi : Int) (h : l.length = 2) : impl_allIn.f 5 l lo hi = some (decide (lo ≤ rd l 0 ∧ rd l 0 ≤ hi) && decide (lo ≤ rd l 1 ∧ rd l 1 ≤ hi)) := by
 obtain ⟨x, y, rfl⟩ : ∃ x y, l = [x, y] := by
  match l, h with
  | [x, y], _ => exact ⟨x, y, rfl⟩
 have e1 : wrap64 (0 + 1) = 1 := by rw [w64y _ (by omega) (by omega)]; rfl
 have e2 : wrap64 (1 + 1) = 2 := by rw [w64y _ (by omega) (by omega)]; rfl
 have hin : ∀ a, impl_in.f a lo hi = some (decide (lo ≤ a ∧ a ≤ hi)) := by
  intro a
  unfold impl_in.f
  by_cases h : lo ≤ a
  ·rw [if_pos (show a ≥ lo from h)]; simp [h]
  ·rw [if_neg (show ¬ a ≥ lo from h)]; simp [h]
 have r0 : rd [x, y] 0 = x := rfl
 have r1 : rd [x, y] 1 = y := rfl
 unfold impl_allIn.f
 simp only [impl_allIn.l0, List.length_cons, List.length_nil, hin, e1, e2, r0, r1, Option.bind_some]
 cases decide (lo ≤ x ∧ x ≤ hi) <;> cases decide (lo ≤ y ∧ y ≤ hi) <;> simp
theorem comp2 (p l : List Int) (hp : p.length = 2) (hl : l.length = 2) : ∃ c, slices_Compare_int_int.f 5 p l = some c ∧ decide (0 ≤ c) = !lnC p l := by
 obtain ⟨x, y, rfl⟩ : ∃ x y, p = [x, y] := by
  match p, hp with
  | [x, y], _ => exact ⟨x, y, rfl⟩
 obtain ⟨u, v, rfl⟩ : ∃ u v, l = [u, v] := by
  match l, hl with
  | [u, v], _ => exact ⟨u, v, rfl⟩
 have e1 : wrap64 (0 + 1) = 1 := by rw [w64y _ (by omega) (by omega)]; rfl
 have e2 : wrap64 (1 + 1) = 2 := by rw [w64y _ (by omega) (by omega)]; rfl
 have hc : ∀ a b : Int, cmp_Compare_int.f a b = some (if a < b then -1 else if a > b then 1 else 0) := by
  intro a b
  unfold cmp_Compare_int.f cmp_isNaN_int.f
  simp only [Option.bind_some, bne_self_eq_false, Bool.false_eq_true, if_false]
  split
  ·rfl
  ·split <;> rfl
 have r0 : rd [x, y] 0 = x := rfl
 have r1 : rd [x, y] 1 = y := rfl
 have s0 : rd [u, v] 0 = u := rfl
 have s1 : rd [u, v] 1 = v := rfl
 unfold slices_Compare_int_int.f lnC
 simp only [slices_Compare_int_int.l0, List.length_cons, List.length_nil, hc, e1, e2, r0, r1, s0, s1, Option.bind_some]
 by_cases h1 : x < u
 ·refine ⟨-1, ?_, ?_⟩
  ·simp [h1]
  ·simp [h1]
 ·by_cases h2 : x > u
  ·refine ⟨1, ?_, ?_⟩
   ·simp [h1, h2]
   ·have : ¬ x = u := by omega
    simp [h1, this]
  ·have hxu : x = u := by omega
   subst hxu
   by_cases h3 : y < v
   ·refine ⟨-1, ?_, ?_⟩
    ·simp [h3]
    ·simp [h3]
   ·by_cases h4 : y > v
    ·refine ⟨1, ?_, ?_⟩
     ·simp [h3, h4]
     ·simp [h3]
    ·have hyv : y = v := by omega
     subst hyv
     refine ⟨0, ?_, ?_⟩
     ·simp
     ·simp
theorem allIn_q (A : Option Addr) (c : Nat) (l : List Int) (lo hi : Int) (b : Bool) (w : World) (n : Nat) (hr : Kd.C (Kd.int .i64) w A l.length l) (hc : l.length ≤ c) (hf : impl_allIn.f 5 l lo hi = some b) : Calls Try.prog 51 #[.slice A l.length c, .int .i64 lo, .int .i64 hi] (w.drewN n) fun e w'' => e = .returned (.bool b) ∧ ∃ m, w'' = w.drewN m := by
 refine (impl_allIn.calls 5 A c l lo hi b (w.drewN n) (Kd.C_drewN hr n) hc hf).mono ?_
 rintro e w' ⟨rfl, ⟨m, rfl⟩⟩
 exact ⟨rfl, n + m, by rw [World.drewN_drewN]⟩
theorem comp_q (A : Option Addr) (c : Nat) (p : List Int) (A' : Option Addr) (c' : Nat) (l : List Int) (v : Int) (w : World) (n : Nat) (hr : Kd.C (Kd.int .i64) w A p.length p) (hc : p.length ≤ c) (hr' : Kd.C (Kd.int .i64) w A' l.length l) (hc' : l.length ≤ c') (hf : slices_Compare_int_int.f 5 p l = some v) : Calls Try.prog 52 #[.slice A p.length c, .slice A' l.length c'] (w.drewN n) fun e w'' => e = .returned (.int .i64 v) ∧ ∃ m, w'' = w.drewN m := by
 refine (slices_Compare_int_int.calls 5 A c p A' c' l v (w.drewN n) (Kd.C_drewN hr n) hc (Kd.C_drewN hr' n) hc' hf).mono ?_
 rintro e w' ⟨rfl, ⟨m, rfl⟩⟩
 exact ⟨rfl, n + m, by rw [World.drewN_drewN]⟩
set_option maxHeartbeats 8000000 in
set_option maxRecDepth 100000 in
theorem impl_goodLinks.calls (a0 : Int) (A1 : Option Addr) (c1 : Nat) (l1 : List (List Int)) (r : Bool) (w : World) (hr1 : Kd.C (Kd.slice 3 (Kd.int .i64)) w A1 l1.length l1) (hc1 : l1.length ≤ c1) (h : impl_goodLinks.f a0 l1 = some r) :
  Calls Try.prog 28 #[.int .i64 a0, .slice A1 l1.length c1] w fun e w' => e = .returned (.bool r) ∧ Below w.heap.size w w' := by
 have HR1 := Aside0.mk hr1
 have HC1 := Aside0.mk hc1
 clear hr1 hc1
 unfold impl_goodLinks.f at h
 by_cases hn : l1.length ≤ 1000000000
 case neg => rw [if_neg hn] at h; exact absurd h (by simp)
 rw [if_pos hn] at h
 have HE := Aside0.mk (Option.some.inj h)
 clear h
 have HB := Aside0.mk (Below.refl w.heap.size w)
 obtain ⟨m, hm⟩ : ∃ m, m = wrap64 (a0 - 1) := ⟨_, rfl⟩
 have HM := Aside0.mk hm
 clear hm
 go_enter Try.func28, Try.ntmps28
 go_wp2
 go_loopg [9] (l1.length + 1) (fun kq v9 w' => ∃ i : Nat, v9 = .int .i64 i ∧ i ≤ l1.length ∧ Aside0 (kq + i = l1.length + 1) ∧ Aside0 (∀ j, j < i → okAtC m l1 j = true) ∧ Aside0 (Below w.heap.size w w'))
 case atStart => exact ⟨0, rfl, Nat.zero_le _, ⟨rfl⟩, ⟨fun j hj => absurd hj (Nat.not_lt_zero _)⟩, HB⟩
 case round =>
  obtain ⟨i, rfl, hi, HG, HA, HB⟩ := hrel
  cases gk with
  | zero => exact absurd HG.out (by omega)
  | succ k1 =>
  by_cases hlt : i < l1.length
  ·obtain ⟨ad, A0, c0, e, hx, hl, hr⟩ := at_L1 HR1.out (i : Int) (by omega) (by omega)
   cases e
   replace hx := (HB.out.cell (World.block_lt_of_cell? w _ hx)).trans hx
   rw [Int.toNat_natCast] at hx
   have HR := Aside0.mk hr
   have HCc := Aside0.mk hl
   clear hr hl
   obtain ⟨l, hl⟩ : ∃ l, l = rd_L1 l1 (i : Int) := ⟨_, rfl⟩
   rw [← hl] at hx HR HCc
   have HLr := Aside0.mk hl
   clear hl
   have d1 : decide ((i : Int) < (l1.length : Int)) = true := decide_eq_true (by omega)
   have d2 : decide (i < l1.length) = true := decide_eq_true hlt
   have hw : IntKind.i64.wrap (a0 - 1) = m := by rw [i64_w]; exact HM.out.symm
   have hw2 : wrap64 (a0 - 1) = m := HM.out.symm
   go_upto_region 4 with (fail)
   go_cut [46] (fun v46 wc => ∃ b : Bool, v46 = .bool b ∧ Aside0 (b = !okAtC m l1 i) ∧ Aside0 (Below w.heap.size w wc))
   case first =>
    have BE := Aside0.mk (show ∀ n, Below w.heap.size w (wr.drewN n) from fun n => by first | exact pw_below_drewN HB.out n | (apply pw_below_drewN; exact HB.out))
    have HRw := Aside0.mk (Kd.C_below HR.out HB.out)
    by_cases h2 : l.length = 2
    case neg =>
     have e0 : ((l.length : Int) != 2) = true := bne_iff_ne.mpr (by omega)
     have HV := Aside0.mk (show true = !okAtC m l1 i by unfold okAtC; rw [← HLr.out]; simp [lkC, h2])
     clear h2
     go_quiet (fail)
     try go_wp2
     go_meet
     case rel => exact ⟨true, rfl, HV, ⟨BE.out _⟩⟩
    have e0 : ((l.length : Int) != 2) = false := bne_eq_false_iff_eq.mpr (by omega)
    have HA2 := Aside0.mk (allIn2 l 0 m h2)
    obtain ⟨ad2, rfl, hx0⟩ := Kd.at_int HR.out 0 (by omega) (by omega)
    obtain ⟨ad3, e3, hx1⟩ := Kd.at_int HR.out 1 (by omega) (by omega)
    obtain rfl : ad2 = ad3 := by injection e3
    clear e3
    replace hx0 := (HB.out.cell (World.block_lt_of_cell? w _ hx0)).trans hx0
    replace hx1 := (HB.out.cell (World.block_lt_of_cell? w _ hx1)).trans hx1
    rw [show ((0 : Int)).toNat = 0 from rfl, Addr.add_zero'] at hx0
    rw [show ((1 : Int)).toNat = 1 from rfl] at hx1
    have hx1w := hx1
    simp only [Nat.reduceMul, Nat.reduceEqDiff, Go.Addr.add, ↓reduceIte] at hx1w
    have q0 : (0 < l.length) = True := eq_true (by omega)
    have q1 : (1 < l.length) = True := eq_true (by omega)
    have p0 : (0 : Int) < (l.length : Int) := by omega
    have p1 : (1 : Int) < (l.length : Int) := by omega
    have H2 := Aside0.mk h2
    clear h2
    obtain ⟨b0, hb0⟩ : ∃ b0, b0 = (decide (0 ≤ rd l 0 ∧ rd l 0 ≤ m) && decide (0 ≤ rd l 1 ∧ rd l 1 ≤ m)) := ⟨_, rfl⟩
    have hlk : lkC m l = (b0 && decide (rd l 0 < rd l 1)) := by unfold lkC; rw [decide_eq_true H2.out, hb0, Bool.true_and, Bool.and_assoc]
    have HF := Aside0.mk (show impl_allIn.f 5 l 0 m = some b0 by rw [hb0]; exact HA2.out)
    clear hb0 HA2
    cases b0
    case false =>
     have HV := Aside0.mk (show true = !okAtC m l1 i by unfold okAtC; rw [← HLr.out, hlk]; simp)
     clear hlk
     go_quiet ((go_at_call 51; exact allIn_q _ _ _ _ _ false _ _ HRw.out HCc.out HF.out))
     try go_wp2
     go_meet
     case rel => exact ⟨true, rfl, HV, ⟨BE.out _⟩⟩
    by_cases hge : rd l 1 ≤ rd l 0
    case pos =>
     have HV := Aside0.mk (show true = !okAtC m l1 i by unfold okAtC; rw [← HLr.out, hlk, decide_eq_false (by omega)]; simp)
     have d0 : decide (rd l 1 ≤ rd l 0) = true := decide_eq_true hge
     clear hlk hge
     go_quiet ((go_at_call 51; exact allIn_q _ _ _ _ _ true _ _ HRw.out HCc.out HF.out))
     try go_wp2
     go_meet
     case rel => exact ⟨true, rfl, HV, ⟨BE.out _⟩⟩
    have HKt := Aside0.mk (show lkC m l = true by rw [hlk, decide_eq_true (by omega)]; rfl)
    have d0 : decide (rd l 1 ≤ rd l 0) = false := decide_eq_false hge
    clear hlk hge
    by_cases hi0 : i = 0
    case pos =>
     have HV := Aside0.mk (show false = !okAtC m l1 i by unfold okAtC; rw [← HLr.out, HKt.out, decide_eq_true hi0]; rfl)
     have g0 : decide ((0 : Int) < (i : Int)) = false := decide_eq_false (by omega)
     have g1 : decide (0 < i) = false := decide_eq_false (by omega)
     clear hi0
     go_quiet ((go_at_call 51; exact allIn_q _ _ _ _ _ true _ _ HRw.out HCc.out HF.out))
     try go_wp2
     go_meet
     case rel => exact ⟨false, rfl, HV, ⟨BE.out _⟩⟩
    obtain ⟨j, rfl⟩ : ∃ j, i = j + 1 := ⟨i - 1, by omega⟩
    have hej : ((j + 1 : Nat) : Int) - 1 = (j : Int) := by omega
    obtain ⟨ad4, Ap, cp, e4, hxp, hlp, hrp⟩ := at_L1 HR1.out (j : Int) (by omega) (by omega)
    obtain rfl : ad = ad4 := by injection e4
    clear e4
    replace hxp := (HB.out.cell (World.block_lt_of_cell? w _ hxp)).trans hxp
    rw [Int.toNat_natCast] at hxp
    obtain ⟨p, hp⟩ : ∃ p, p = rd_L1 l1 (j : Int) := ⟨_, rfl⟩
    rw [← hp] at hxp hlp hrp
    have HPr := Aside0.mk hp
    have hp2 : p.length = 2 := by
     have h := HA.out j (by omega)
     unfold okAtC at h
     rw [← HPr.out, Bool.and_eq_true] at h
     have h1 := h.1
     unfold lkC at h1
     rw [Bool.and_eq_true] at h1
     exact of_decide_eq_true h1.1
    have HRp := Aside0.mk (Kd.C_below hrp HB.out)
    have HCp := Aside0.mk hlp
    obtain ⟨cv, hcv, hcd⟩ := comp2 p l hp2 H2.out
    have HCF := Aside0.mk hcv
    clear hp hlp hrp hcv hp2
    have rj0 : (0 : Int) ≤ (j : Int) := by omega
    have rj1 : (j : Int) < (l1.length : Int) := by omega
    have hwj : IntKind.i64.wrap (((j + 1 : Nat) : Int) - 1) = (j : Int) := by rw [i64_w, w64y _ (by omega) (by omega)]; exact hej
    have hwj2 : IntKind.i64.wrap ((j : Int) + 1 - 1) = (j : Int) := by rw [i64_w, w64y _ (by omega) (by omega)]; omega
    have g0 : decide ((0 : Int) < ((j + 1 : Nat) : Int)) = true := decide_eq_true (by omega)
    have g1 : decide (0 < j + 1) = true := decide_eq_true (by omega)
    have g2 : decide ((0 : Int) < (j : Int) + 1) = true := decide_eq_true (by omega)
    have HV := Aside0.mk (show decide (0 ≤ cv) = !okAtC m l1 (j + 1) by
     unfold okAtC
     rw [← HLr.out, HKt.out, hej, ← HPr.out, decide_eq_false (by omega : ¬ j + 1 = 0), hcd]
     rfl)
    clear hej hcd
    go_quiet (first | (go_at_call 51; exact allIn_q _ _ _ _ _ true _ _ HRw.out HCc.out HF.out) | (go_at_call 52; exact comp_q _ _ _ _ _ _ cv _ _ HRp.out HCp.out HRw.out HCc.out HCF.out))
    try go_wp2
    go_meet
    case rel => exact ⟨_, rfl, HV, ⟨BE.out _⟩⟩
   case rest =>
    obtain ⟨b, rfl, HV, HB⟩ := hcut
    cases ho : okAtC m l1 i
    case false =>
     obtain rfl : b = true := by have := HV.out; rw [ho] at this; exact this
     have hre : r = false := HE.out.symm.trans (by
      unfold linksC
      rw [← HM.out]
      have : (List.range l1.length).all (okAtC m l1) = false := by
       rw [List.all_eq_false]
       exact ⟨i, List.mem_range.2 hlt, by rw [ho]; simp⟩
      rw [this, Bool.false_and])
     subst hre
     clear ho
     go_wp2
     go_ret
     exact ⟨rfl, HB.out⟩
    obtain rfl : b = false := by have := HV.out; rw [ho] at this; exact this
    have HO := Aside0.mk ho
    clear ho
    have hwi : wrap64 ((i : Int) + 1) = ((i + 1 : Nat) : Int) := by rw [w64y _ (by omega) (by omega)]; omega
    have HWI := Aside0.mk hwi
    clear hwi
    go_wp2
    go_roundg k1
    case measure => omega
    case rel => exact ⟨i + 1, by first | rfl | exact congrArg (Value.int .i64) HWI.out | (simp; done), hlt, ⟨by have := HG.out; omega⟩, ⟨fun j hj => by
     rcases Nat.lt_succ_iff_lt_or_eq.1 hj with h | rfl
     ·exact HA.out j h
     ·exact HO.out⟩, HB⟩
  ·obtain rfl : i = l1.length := by omega
   have d1 : decide ((l1.length : Int) < (l1.length : Int)) = false := decide_eq_false (by omega)
   have d2 : decide (l1.length < l1.length) = false := decide_eq_false (by omega)
   obtain ⟨b, hb⟩ : ∃ b, b = decide (1 ≤ a0 ∧ a0 ≤ 6) := ⟨_, rfl⟩
   have hf : impl_in.f a0 1 6 = some b := by
    rw [hb]
    unfold impl_in.f
    by_cases h : 1 ≤ a0
    ·rw [if_pos (show a0 ≥ 1 from h)]; simp [h]
    ·rw [if_neg (show ¬ a0 ≥ 1 from h)]; simp [h]
   have HF := Aside0.mk hf
   have hre : r = (b && decide (l1.length ≤ 15)) := HE.out.symm.trans (by
    unfold linksC
    rw [← HM.out, hb]
    have : (List.range l1.length).all (okAtC m l1) = true := by
     rw [List.all_eq_true]
     exact fun j hj => HA.out j (List.mem_range.1 hj)
    rw [this, Bool.true_and])
   clear hf hb
   cases b
   case false =>
    rw [Bool.false_and] at hre
    subst hre
    go_wp2_with (first | (go_at_call 49; (with_reducible refine (impl_in.calls a0 1 6 false _ HF.out).mono ?_); rintro e w5 ⟨rfl, hd⟩; have HB5 := Aside0.mk (below_step HB.out hd.below); clear hd))
    go_ret
    exact ⟨rfl, HB5.out⟩
   case true =>
    rw [Bool.true_and] at hre
    have HRe := Aside0.mk hre
    clear hre
    go_wp2_with (first | (go_at_call 49; (with_reducible refine (impl_in.calls a0 1 6 true _ HF.out).mono ?_); rintro e w5 ⟨rfl, hd⟩; have HB5 := Aside0.mk (below_step HB.out hd.below); clear hd))
    go_ret
    refine ⟨?_, HB5.out⟩
    rw [HRe.out]
    simp
    omega

/-! ### impl_goodRows: function 46 -/
def impl_goodRows.l0 : Nat → List (List Int) → Int → Int → Int → List (List Int) → Int → Int → Option (Bool)
 | 0, _, _, _, _, _, _, _ => none
 | k + 1, x0, x1, x2, x3, x11, x12, x13 => if x13 < x12 then (if 0 ≤ x13 then (if x13 < (x11.length : Int) then (if ((rd_L1 x11 x13).length : Int) = x2 then ((impl_allIn.f k (rd_L1 x11 x13) 0 x3).bind fun t291 => (if t291 = true then (impl_goodRows.l0 k x0 x1 x2 x3 x11 x12 (wrap64 (x13 + 1))) else (some false))) else (some false)) else (none)) else (none)) else (some ((x0.length : Int) == x1))
def impl_goodRows.f (k : Nat) (l0 : List (List Int)) (a1 : Int) (a2 : Int) (a3 : Int) : Option (Bool) := impl_goodRows.l0 k l0 a1 a2 a3 l0 (l0.length : Int) 0
theorem impl_goodRows.mono_l : ∀ k, (∀ y0 y1 y2 y3 y4 y5 y6, LeO (impl_goodRows.l0 k y0 y1 y2 y3 y4 y5 y6) (impl_goodRows.l0 (k + 1) y0 y1 y2 y3 y4 y5 y6))
 | 0 => fun _ _ _ _ _ _ _ r h => by simp [impl_goodRows.l0] at h
 | k + 1 => by
  have ih0 := impl_goodRows.mono_l k
  ·intro y0 y1 y2 y3 y4 y5 y6
   unfold impl_goodRows.l0
   repeat' first
   | (with_reducible exact ih0 _ _ _ _ _ _ _)
   | (with_reducible exact impl_allIn.mono _ _ _ _)
   | (with_reducible exact LeO.refl _)
   | (with_reducible exact LeO.none _)
   | (with_reducible refine LeO.ite ?_ ?_)
   | (with_reducible refine LeO.bind ?_ (fun _ => ?_))
   | exact ih0 _ _ _ _ _ _ _
   | exact impl_allIn.mono _ _ _ _
   | exact LeO.none _
   | refine LeO.ite ?_ ?_
   | refine LeO.bind ?_ (fun _ => ?_)
theorem impl_goodRows.mono : ∀ a0 a1 a2 a3 k, LeO (impl_goodRows.f k a0 a1 a2 a3) (impl_goodRows.f (k + 1) a0 a1 a2 a3) := by
 intro a0 a1 a2 a3 k
 have ih0 := impl_goodRows.mono_l k
 unfold impl_goodRows.f
 repeat' first
   | (with_reducible exact ih0 _ _ _ _ _ _ _)
   | (with_reducible exact impl_allIn.mono _ _ _ _)
   | (with_reducible exact LeO.refl _)
   | (with_reducible exact LeO.none _)
   | (with_reducible refine LeO.ite ?_ ?_)
   | (with_reducible refine LeO.bind ?_ (fun _ => ?_))
   | exact ih0 _ _ _ _ _ _ _
   | exact impl_allIn.mono _ _ _ _
   | exact LeO.none _
   | refine LeO.ite ?_ ?_
   | refine LeO.bind ?_ (fun _ => ?_)
set_option maxHeartbeats 8000000 in
set_option maxRecDepth 100000 in
theorem impl_goodRows.calls (k : Nat) (A0 : Option Addr) (c0 : Nat) (l0 : List (List Int)) (a1 : Int) (a2 : Int) (a3 : Int) (r : Bool) (w : World) (hr0 : Kd.C (Kd.slice 3 (Kd.int .i64)) w A0 l0.length l0) (hc0 : l0.length ≤ c0) (h : impl_goodRows.f k l0 a1 a2 a3 = some r) :
  Calls Try.prog 46 #[.slice A0 l0.length c0, .int .i64 a1, .int .i64 a2, .int .i64 a3] w fun e w' => e = .returned (.bool r) ∧ Drawn0 w w' := by
 have HR0 := Aside0.mk hr0
 have HC0 := Aside0.mk hc0
 clear hr0 hc0
 have H : (impl_goodRows.l0 k l0 a1 a2 a3 l0 (l0.length : Int) 0) = some r := h
 clear h
 have H' := Aside0.mk H
 clear H
 go_enter Try.func46, Try.ntmps46
 go_wp2
 go_loopg [13] k (fun kq v13 w' => ∃ (x13_1 : Int), v13 = .int .i64 x13_1 ∧ Aside0 (impl_goodRows.l0 kq l0 a1 a2 a3 l0 (l0.length : Int) x13_1 = some r) ∧ Aside0 (kq ≤ k) ∧ Drawn0 w w')
 case atStart => exact ⟨(0), (by first | rfl | (simp; done) | (simp [*]; done)), H', ⟨Nat.le_refl _⟩, by repeat (first | exact Drawn0.refl _ | apply Drawn0.step)⟩
 case round =>
  clear H'
  try clear p2
  try clear c4
  obtain ⟨x13_1, rfl, HA, HK1, ⟨m1, rfl⟩⟩ := hrel
  cases gk with
  | zero => exact absurd HA.out (by simp [impl_goodRows.l0])
  | succ k1 =>
   have H := HA.out
   clear HA
   simp only [impl_goodRows.l0] at H
   by_cases c5 : x13_1 < (l0.length : Int)
   ·rw [if_pos c5] at H
    have c5b0 : decide (x13_1 < (l0.length : Int)) = true := decide_eq_true c5
    clear c5
    by_cases c6 : 0 ≤ x13_1
    ·rw [if_pos c6] at H
     have c6b0 : decide (0 ≤ x13_1) = true := decide_eq_true c6
     clear c6
     by_cases c7 : x13_1 < (l0.length : Int)
     ·rw [if_pos c7] at H
      have c7b0 : decide (x13_1 < (l0.length : Int)) = true := decide_eq_true c7
      clear c7
      by_cases c8 : ((rd_L1 l0 x13_1).length : Int) = a2
      ·rw [if_pos c8] at H
       have c8b0 : (((rd_L1 l0 x13_1).length : Int) == a2) = true := beq_iff_eq.mpr c8
       have c8b1 : (((rd_L1 l0 x13_1).length : Int) != a2) = false := bne_eq_false_iff_eq.mpr c8
       clear c8
       replace H := Option.bind_eq_some_iff.mp H
       obtain ⟨t291, A90, H⟩ := H
       replace H : (if t291 = true then (impl_goodRows.l0 k1 l0 a1 a2 a3 l0 (l0.length : Int) (wrap64 (x13_1 + 1))) else (some false)) = some r := H
       have A9 := Aside0.mk A90
       clear A90
       by_cases c10 : t291 = true
       ·subst c10
        have H1 : (impl_goodRows.l0 k1 l0 a1 a2 a3 l0 (l0.length : Int) (wrap64 (x13_1 + 1))) = some r := by rw [if_pos rfl] at H; exact H
        clear H
        have H := H1
        clear H1
        have H' := Aside0.mk H
        clear H
        have p290 : 0 ≤ (x13_1 : Int) := of_decide_eq_true (by first | (with_reducible assumption) | assumption)
        have q290 : x13_1 < (l0.length : Int) := of_decide_eq_true (by first | (with_reducible assumption) | assumption)
        obtain ⟨ad290, A290_0, c290_0, e290, hx290_0, hl290_0, hi290_0⟩ := at_L1 HR0.out x13_1 p290 q290
        cases e290
        have HR290_0 := Aside0.mk hi290_0
        have HC290_0 := Aside0.mk hl290_0
        clear hi290_0 hl290_0
        replace p290 := eq_true p290
        replace q290 := eq_true q290
        go_wp2_with (first | (go_at_call 51; (with_reducible refine (impl_allIn.calls k1 _ _ (rd_L1 l0 x13_1) 0 a3 true _ ?side1 ?side2 A9.out).mono ?_); (case side1 => repeat (first | exact HR290_0.out | (with_reducible refine Kd.C_alloc ?_ _) | (with_reducible refine Kd.C_drewN ?_ _) | (with_reducible refine Kd.C_drew ?_))); (case side2 => exact HC290_0.out); rintro e w' ⟨rfl, ⟨nd, rfl⟩⟩))
        go_roundg k1
        case measure => have := HK1.out; omega
        case rel => exact ⟨(wrap64 (x13_1 + 1)), (by first | rfl | (simp; done) | (simp [*]; done)), H', ⟨by have := HK1.out; omega⟩, by repeat (first | exact Drawn0.refl _ | apply Drawn0.step)⟩
       ·replace c10 := Bool.eq_false_iff.mpr c10
        subst c10
        have H1 : (some false) = some r := by rw [if_neg (show ¬ (false = true) by decide)] at H; exact H
        clear H
        have H := H1
        clear H1
        obtain rfl := Option.some.inj H
        have p290 : 0 ≤ (x13_1 : Int) := of_decide_eq_true (by first | (with_reducible assumption) | assumption)
        have q290 : x13_1 < (l0.length : Int) := of_decide_eq_true (by first | (with_reducible assumption) | assumption)
        obtain ⟨ad290, A290_0, c290_0, e290, hx290_0, hl290_0, hi290_0⟩ := at_L1 HR0.out x13_1 p290 q290
        cases e290
        have HR290_0 := Aside0.mk hi290_0
        have HC290_0 := Aside0.mk hl290_0
        clear hi290_0 hl290_0
        replace p290 := eq_true p290
        replace q290 := eq_true q290
        go_wp2_with (first | (go_at_call 51; (with_reducible refine (impl_allIn.calls k1 _ _ (rd_L1 l0 x13_1) 0 a3 false _ ?side1 ?side2 A9.out).mono ?_); (case side1 => repeat (first | exact HR290_0.out | (with_reducible refine Kd.C_alloc ?_ _) | (with_reducible refine Kd.C_drewN ?_ _) | (with_reducible refine Kd.C_drew ?_))); (case side2 => exact HC290_0.out); rintro e w' ⟨rfl, ⟨nd, rfl⟩⟩))
        go_ret
        exact ⟨by first | rfl | (simp; done) | (simp [*]; done), by repeat (first | exact Drawn0.refl _ | apply Drawn0.step)⟩
      ·rw [if_neg c8] at H
       have c8b0 : (((rd_L1 l0 x13_1).length : Int) == a2) = false := beq_eq_false_iff_ne.mpr c8
       have c8b1 : (((rd_L1 l0 x13_1).length : Int) != a2) = true := bne_iff_ne.mpr c8
       obtain rfl := Option.some.inj H
       have p290 : 0 ≤ (x13_1 : Int) := of_decide_eq_true (by first | (with_reducible assumption) | assumption)
       have q290 : x13_1 < (l0.length : Int) := of_decide_eq_true (by first | (with_reducible assumption) | assumption)
       obtain ⟨ad290, A290_0, c290_0, e290, hx290_0, hl290_0, hi290_0⟩ := at_L1 HR0.out x13_1 p290 q290
       cases e290
       have HR290_0 := Aside0.mk hi290_0
       have HC290_0 := Aside0.mk hl290_0
       clear hi290_0 hl290_0
       replace p290 := eq_true p290
       replace q290 := eq_true q290
       go_wp2
       go_ret
       exact ⟨by first | rfl | (simp; done) | (simp [*]; done), by repeat (first | exact Drawn0.refl _ | apply Drawn0.step)⟩
     ·rw [if_neg c7] at H
      exact absurd H (by simp)
    ·rw [if_neg c6] at H
     exact absurd H (by simp)
   ·rw [if_neg c5] at H
    have c5b0 : decide (x13_1 < (l0.length : Int)) = false := decide_eq_false c5
    clear c5
    obtain rfl := Option.some.inj H
    go_wp2
    go_ret
    exact ⟨by first | rfl | (simp; done) | (simp [*]; done), by repeat (first | exact Drawn0.refl _ | apply Drawn0.step)⟩

-- NOT PRINTED: function 69 (slices_IndexFunc_int_int)

-- NOT PRINTED: function 64 (slices_ContainsFunc_int_int)

end Go.Proofs.Ytdbnjjpkpaifcaa.PFnExactAllSame
