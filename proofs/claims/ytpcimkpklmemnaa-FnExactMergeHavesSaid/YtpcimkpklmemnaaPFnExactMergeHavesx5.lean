-- Written by a program of this project (myprint.py, by way of the kit's printer). Not trusted: Lean checks it.
import Derived.Test.YtpcimkpklmemnaaPFnExactMergeHavesx0
import Derived.Test.YtpcimkpklmemnaaPFnExactMergeHavesx1
import Derived.Test.YtpcimkpklmemnaaPFnExactMergeHavesx3
import Derived.Test.YtpcimkpklmemnaaPFnExactMergeHavesx4
namespace Go.Proofs.Ytpcimkpklmemnaa.PFnExactMergeHaves
open Go.RowKit Go.Proofs.YtpcimkpklmemnaaW.PrintWords Go.Proofs.YtpcimkpklmemnaaW.PrintLast Go.Proofs.YtpcimkpklmemnaaW.PrintMore
attribute [local go_sem] max2_int min2_int max_two min_two max_three min_three max_four min_four   -- for this text's walks alone
set_option linter.unusedVariables false
set_option linter.unusedSimpArgs false

/-! ### impl_MergeHaves: function 28 -/
def impl_MergeHaves.j0 : Nat → List (S56) → List (S56) → Bool → Option ((List (S56)) × Bool)
  | 0, _, _, _ => none
  | k + 1, x0, x1, x14 => if x14 = true then (some (([] : List (S56)), false)) else ((impl_merged.f x0 x1).bind fun t203 => (if (t203.length : Int) > 30 then (some (([] : List (S56)), false)) else (some (t203, true))))
def impl_MergeHaves.f (k : Nat) (l0 : List (S56)) (l1 : List (S56)) : Option ((List (S56)) × Bool) := (impl_GoodHaves.f k l0).bind fun t201 => (if t201 = true then ((impl_GoodHaves.f k l1).bind fun t202 => (impl_MergeHaves.j0 k l0 l1 (!t202))) else (impl_MergeHaves.j0 k l0 l1 true))
theorem impl_MergeHaves.mono_l : ∀ k, (∀ y0 y1 y2, LeO (impl_MergeHaves.j0 k y0 y1 y2) (impl_MergeHaves.j0 (k + 1) y0 y1 y2))
  | 0 => fun _ _ _ r h => by simp [impl_MergeHaves.j0] at h
  | k + 1 => by
    have ih0 := impl_MergeHaves.mono_l k
    · intro y0 y1 y2
      unfold impl_MergeHaves.j0
      repeat' first
      | (with_reducible exact ih0 _ _ _)
      | (with_reducible exact impl_GoodHaves.mono _ _)
      | (with_reducible exact LeO.refl _)
      | (with_reducible exact LeO.none _)
      | (with_reducible refine LeO.ite ?_ ?_)
      | (with_reducible refine LeO.bind ?_ (fun _ => ?_))
      | exact ih0 _ _ _
      | exact impl_GoodHaves.mono _ _
      | exact LeO.none _
      | refine LeO.ite ?_ ?_
      | refine LeO.bind ?_ (fun _ => ?_)
theorem impl_MergeHaves.mono : ∀ a0 a1 k, LeO (impl_MergeHaves.f k a0 a1) (impl_MergeHaves.f (k + 1) a0 a1) := by
  intro a0 a1 k
  have ih0 := impl_MergeHaves.mono_l k
  unfold impl_MergeHaves.f
  repeat' first
      | (with_reducible exact ih0 _ _ _)
      | (with_reducible exact impl_GoodHaves.mono _ _)
      | (with_reducible exact LeO.refl _)
      | (with_reducible exact LeO.none _)
      | (with_reducible refine LeO.ite ?_ ?_)
      | (with_reducible refine LeO.bind ?_ (fun _ => ?_))
      | exact ih0 _ _ _
      | exact impl_GoodHaves.mono _ _
      | exact LeO.none _
      | refine LeO.ite ?_ ?_
      | refine LeO.bind ?_ (fun _ => ?_)
set_option maxHeartbeats 8000000 in
set_option maxRecDepth 100000 in
theorem impl_MergeHaves.calls (k : Nat) (A0 : Option Addr) (c0 : Nat) (l0 : List (S56)) (A1 : Option Addr) (c1 : Nat) (l1 : List (S56)) (r1 : List (S56)) (r2 : Bool) (w : World) (hr0 : Kd.C k56 w A0 l0.length l0) (hc0 : l0.length ≤ c0) (hr1 : Kd.C k56 w A1 l1.length l1) (hc1 : l1.length ≤ c1) (h : impl_MergeHaves.f k l0 l1 = some (r1, r2)) :
    Calls Try.prog 28 #[.slice A0 l0.length c0, .slice A1 l1.length c1] w fun e w' => ∃ v0_ : Value, e = .returned (.tuple #[v0_, .bool r2]) ∧ Kd.R k56 56 w' w.heap.size (fun _ => True) v0_ r1 ∧ Below w.heap.size w w' := by
  have HR0 := Aside0.mk hr0
  have HC0 := Aside0.mk hc0
  clear hr0 hc0
  have HR1 := Aside0.mk hr1
  have HC1 := Aside0.mk hc1
  clear hr1 hc1
  have HB := Aside0.mk (Below.refl w.heap.size w)
  have H : ((impl_GoodHaves.f k l0).bind fun t201 => (if t201 = true then ((impl_GoodHaves.f k l1).bind fun t202 => (impl_MergeHaves.j0 k l0 l1 (!t202))) else (impl_MergeHaves.j0 k l0 l1 true))) = some (r1, r2) := h
  clear h
  have HC3 := Aside0.mk H
  clear H
  go_enter Try.func28, Try.ntmps28
  go_upto_region 1 with (fail)
  go_cut [14] (fun v14 wc => ∃ (kq : Nat) (x14_2 : Bool), v14 = .bool x14_2 ∧ Aside0 (impl_MergeHaves.j0 kq l0 l1 x14_2 = some (r1, r2)) ∧ Aside0 (kq ≤ k) ∧ Aside0 (Below w.heap.size w wc))
  case first =>
    have H := HC3.out
    clear HC3
    replace H := Option.bind_eq_some_iff.mp H
    obtain ⟨t201, A40, H⟩ := H
    replace H : (if t201 = true then ((impl_GoodHaves.f k l1).bind fun t202 => (impl_MergeHaves.j0 k l0 l1 (!t202))) else (impl_MergeHaves.j0 k l0 l1 true)) = some (r1, r2) := H
    have A4 := Aside0.mk A40
    clear A40
    by_cases c5 : t201 = true
    · subst c5
      have H1 : ((impl_GoodHaves.f k l1).bind fun t202 => (impl_MergeHaves.j0 k l0 l1 (!t202))) = some (r1, r2) := by rw [if_pos rfl] at H; exact H
      clear H
      have H := H1
      clear H1
      replace H := Option.bind_eq_some_iff.mp H
      obtain ⟨t202, A60, H⟩ := H
      replace H : (impl_MergeHaves.j0 k l0 l1 (!t202)) = some (r1, r2) := H
      have A6 := Aside0.mk A60
      clear A60
      have H' := Aside0.mk H
      clear H
      go_wp2_with (first | ((with_reducible refine gate_callee (f := 12) rfl ?_); refine goesL_ (some 8) rfl rfl Try.func12 (by kernel_rfl) rfl #[.slice A0 l0.length c0] rfl (by (try simp only [List.map_toArray, List.map_cons, List.map_nil]); first | done | rfl | (simp only [List.length_drop, List.length_take]; rfl)) ?_; (with_reducible refine (impl_GoodHaves.calls k _ _ l0 true _ ?side1 ?side2 A4.out).mono ?_); (case side1 => repeat (first | exact (Kd.C_below HR0.out HB.out) | (with_reducible refine Kd.C_alloc ?_ _) | (with_reducible refine Kd.C_drewN ?_ _) | (with_reducible refine Kd.C_drew ?_))); (case side2 => exact HC0.out); rintro e w7 ⟨rfl, hb⟩; refine ⟨_, rfl, ?_⟩; have n0_ := Aside0.mk (below_step (by repeat (first | (with_reducible first | exact HB.out | apply below_alloc | apply pw_below_drewN | apply below_drew1) | exact HB.out)) hb); clear HB; have HB := n0_; clear n0_; (try clear hb); (try clear hb2); (try clear hk); (try clear hi)) | (go_at_call 12; (with_reducible refine (impl_GoodHaves.calls k _ _ l1 t202 _ ?side1 ?side2 A6.out).mono ?_); (case side1 => repeat (first | exact (Kd.C_below HR1.out HB.out) | (with_reducible refine Kd.C_alloc ?_ _) | (with_reducible refine Kd.C_drewN ?_ _) | (with_reducible refine Kd.C_drew ?_))); (case side2 => exact HC1.out); rintro e w8 ⟨rfl, hb⟩; have n0_ := Aside0.mk (below_step (by repeat (first | (with_reducible first | exact HB.out | apply below_alloc | apply pw_below_drewN | apply below_drew1) | exact HB.out)) hb); clear HB; have HB := n0_; clear n0_; (try clear hb); (try clear hb2); (try clear hk); (try clear hi)))
      go_meet
      case rel => exact ⟨_, (!t202), (by first | rfl | (simp; done) | (simp [*]; done)), H', ⟨by first | omega | exact Nat.le_refl _⟩, ⟨by repeat (first | (with_reducible first | exact HB.out | apply below_alloc | apply pw_below_drewN | apply below_drew1) | exact HB.out)⟩⟩
    · replace c5 := Bool.eq_false_iff.mpr c5
      subst c5
      have H1 : (impl_MergeHaves.j0 k l0 l1 true) = some (r1, r2) := by rw [if_neg (show ¬ (false = true) by decide)] at H; exact H
      clear H
      have H := H1
      clear H1
      have H' := Aside0.mk H
      clear H
      go_wp2_with (first | ((with_reducible refine gate_callee (f := 12) rfl ?_); refine goesL_ (some 8) rfl rfl Try.func12 (by kernel_rfl) rfl #[.slice A0 l0.length c0] rfl (by (try simp only [List.map_toArray, List.map_cons, List.map_nil]); first | done | rfl | (simp only [List.length_drop, List.length_take]; rfl)) ?_; (with_reducible refine (impl_GoodHaves.calls k _ _ l0 false _ ?side1 ?side2 A4.out).mono ?_); (case side1 => repeat (first | exact (Kd.C_below HR0.out HB.out) | (with_reducible refine Kd.C_alloc ?_ _) | (with_reducible refine Kd.C_drewN ?_ _) | (with_reducible refine Kd.C_drew ?_))); (case side2 => exact HC0.out); rintro e w9 ⟨rfl, hb⟩; refine ⟨_, rfl, ?_⟩; have n0_ := Aside0.mk (below_step (by repeat (first | (with_reducible first | exact HB.out | apply below_alloc | apply pw_below_drewN | apply below_drew1) | exact HB.out)) hb); clear HB; have HB := n0_; clear n0_; (try clear hb); (try clear hb2); (try clear hk); (try clear hi)))
      go_meet
      case rel => exact ⟨_, (true), (by first | rfl | (simp; done) | (simp [*]; done)), H', ⟨by first | omega | exact Nat.le_refl _⟩, ⟨by repeat (first | (with_reducible first | exact HB.out | apply below_alloc | apply pw_below_drewN | apply below_drew1) | exact HB.out)⟩⟩
  case rest =>
    clear HC3
    try clear c1
    try clear c2
    try clear p2
    try clear c5
    obtain ⟨kq, x14_2, rfl, HA, HJ2, HB⟩ := hcut
    cases kq with
    | zero => exact absurd HA.out (by simp [impl_MergeHaves.j0])
    | succ kj2 =>
      have H := HA.out
      clear HA
      simp only [impl_MergeHaves.j0] at H
      by_cases c10 : x14_2 = true
      · subst c10
        have H1 : (some (([] : List (S56)), false)) = some (r1, r2) := by rw [if_pos rfl] at H; exact H
        clear H
        have H := H1
        clear H1
        simp only [Option.some.injEq, Prod.mk.injEq] at H
        obtain ⟨rfl, rfl⟩ := H
        go_wp2
        go_ret2
        exact ⟨_, by first | rfl | (simp [errW_none, errW_some] <;> rfl) | (simp [*, errW_none, errW_some] <;> rfl), by first | exact Kd.R_nil _ _ _ _ _ | exact Kd.N_nil _ _ _ _ _ | exact Kd.V_nil _ _ _ _ _ | exact Kd.Q_nil _ _ _ _ _ | exact Kd.S_nil _ _ _ _ _, by repeat (first | (with_reducible first | exact HB.out | apply below_alloc | apply pw_below_drewN | apply below_drew1) | exact HB.out)⟩
      · replace c10 := Bool.eq_false_iff.mpr c10
        subst c10
        have H1 : ((impl_merged.f l0 l1).bind fun t203 => (if (t203.length : Int) > 30 then (some (([] : List (S56)), false)) else (some (t203, true)))) = some (r1, r2) := by rw [if_neg (show ¬ (false = true) by decide)] at H; exact H
        clear H
        have H := H1
        clear H1
        replace H := Option.bind_eq_some_iff.mp H
        obtain ⟨t203, A110, H⟩ := H
        replace H : (if (t203.length : Int) > 30 then (some (([] : List (S56)), false)) else (some (t203, true))) = some (r1, r2) := H
        have A11 := Aside0.mk A110
        clear A110
        by_cases c12 : (t203.length : Int) > 30
        · rw [if_pos c12] at H
          have c12b0 : decide (30 < (t203.length : Int)) = true := decide_eq_true c12
          have c12b1 : decide (30 < t203.length) = true := decide_eq_true (by omega)
          clear c12
          simp only [Option.some.injEq, Prod.mk.injEq] at H
          obtain ⟨rfl, rfl⟩ := H
          go_wp2_with (first | ((with_reducible refine gate_callee (f := 43) rfl ?_); refine goesL_ (some 17) rfl rfl Try.func43 (by kernel_rfl) rfl #[.slice A0 l0.length c0, .slice A1 l1.length c1] rfl (by (try simp only [List.map_toArray, List.map_cons, List.map_nil]); first | done | rfl | (simp only [List.length_drop, List.length_take]; rfl)) ?_; (with_reducible refine (impl_merged.calls _ _ l0 _ _ l1 t203 _ ?side1 ?side2 ?side3 ?side4 A11.out).mono ?_); (case side1 => repeat (first | exact (Kd.C_below HR0.out HB.out) | (with_reducible refine Kd.C_alloc ?_ _) | (with_reducible refine Kd.C_drewN ?_ _) | (with_reducible refine Kd.C_drew ?_))); (case side2 => exact HC0.out); (case side3 => repeat (first | exact (Kd.C_below HR1.out HB.out) | (with_reducible refine Kd.C_alloc ?_ _) | (with_reducible refine Kd.C_drewN ?_ _) | (with_reducible refine Kd.C_drew ?_))); (case side4 => exact HC1.out); rintro e w13 ⟨v204, rfl, ho0, hb⟩; refine ⟨_, rfl, ?_⟩; have n0_ := Aside0.mk (Kd.R_lower ho0 (below_size (by repeat (first | (with_reducible first | exact HB.out | apply below_alloc | apply pw_below_drewN | apply below_drew1) | exact HB.out)))); have n1_ := Aside0.mk (below_step (by repeat (first | (with_reducible first | exact HB.out | apply below_alloc | apply pw_below_drewN | apply below_drew1) | exact HB.out)) hb); clear HB; have HO205 := n0_; have HB := n1_; clear n0_ n1_; (try clear hb); (try clear hb2); (try clear hk); (try clear hi); (try clear ho0); obtain ⟨Ao14, co14, eo14⟩ := Kd.R_slice HO205.out; subst eo14))
          go_ret2
          exact ⟨_, by first | rfl | (simp [errW_none, errW_some] <;> rfl) | (simp [*, errW_none, errW_some] <;> rfl), by first | exact Kd.R_nil _ _ _ _ _ | exact Kd.N_nil _ _ _ _ _ | exact Kd.V_nil _ _ _ _ _ | exact Kd.Q_nil _ _ _ _ _ | exact Kd.S_nil _ _ _ _ _, by repeat (first | (with_reducible first | exact HB.out | apply below_alloc | apply pw_below_drewN | apply below_drew1) | exact HB.out)⟩
        · rw [if_neg c12] at H
          have c12b0 : decide (30 < (t203.length : Int)) = false := decide_eq_false c12
          have c12b1 : decide (30 < t203.length) = false := decide_eq_false (by omega)
          clear c12
          simp only [Option.some.injEq, Prod.mk.injEq] at H
          obtain ⟨rfl, rfl⟩ := H
          go_wp2_with (first | ((with_reducible refine gate_callee (f := 43) rfl ?_); refine goesL_ (some 17) rfl rfl Try.func43 (by kernel_rfl) rfl #[.slice A0 l0.length c0, .slice A1 l1.length c1] rfl (by (try simp only [List.map_toArray, List.map_cons, List.map_nil]); first | done | rfl | (simp only [List.length_drop, List.length_take]; rfl)) ?_; (with_reducible refine (impl_merged.calls _ _ l0 _ _ l1 t203 _ ?side1 ?side2 ?side3 ?side4 A11.out).mono ?_); (case side1 => repeat (first | exact (Kd.C_below HR0.out HB.out) | (with_reducible refine Kd.C_alloc ?_ _) | (with_reducible refine Kd.C_drewN ?_ _) | (with_reducible refine Kd.C_drew ?_))); (case side2 => exact HC0.out); (case side3 => repeat (first | exact (Kd.C_below HR1.out HB.out) | (with_reducible refine Kd.C_alloc ?_ _) | (with_reducible refine Kd.C_drewN ?_ _) | (with_reducible refine Kd.C_drew ?_))); (case side4 => exact HC1.out); rintro e w15 ⟨v204, rfl, ho0, hb⟩; refine ⟨_, rfl, ?_⟩; have n0_ := Aside0.mk (Kd.R_lower ho0 (below_size (by repeat (first | (with_reducible first | exact HB.out | apply below_alloc | apply pw_below_drewN | apply below_drew1) | exact HB.out)))); have n1_ := Aside0.mk (below_step (by repeat (first | (with_reducible first | exact HB.out | apply below_alloc | apply pw_below_drewN | apply below_drew1) | exact HB.out)) hb); clear HB; have HO205 := n0_; have HB := n1_; clear n0_ n1_; (try clear hb); (try clear hb2); (try clear hk); (try clear hi); (try clear ho0); obtain ⟨Ao16, co16, eo16⟩ := Kd.R_slice HO205.out; subst eo16))
          go_ret2
          exact ⟨_, by first | rfl | (simp [errW_none, errW_some] <;> rfl) | (simp [*, errW_none, errW_some] <;> rfl), by (with_reducible repeat (first | apply Kd.R_alloc | apply Kd.R_drewN | apply Kd.R_drew)); exact HO205.out, by repeat (first | (with_reducible first | exact HB.out | apply below_alloc | apply pw_below_drewN | apply below_drew1) | exact HB.out)⟩

/-! ### laws_heldHaveS: function 29 -/
def laws_heldHaveS.l0 : Nat → List (S56) → Int → Int → Option (Int)
  | 0, _, _, _ => none
  | k + 1, x0, x1, x5 => if x5 < (x0.length : Int) then (if 0 ≤ x5 then (if ((rd_T56 x0 x5).f0) = x1 then (if ((rd_T56 x0 x5).f1) = (wrap64 (x1 + 1)) then (laws_heldHaveS.l0 k x0 (wrap64 ((wrap64 (x1 + 1)) + 1)) (wrap64 (x5 + 1))) else (some (-1))) else (some (-1))) else (none)) else (some x1)
def laws_heldHaveS.f (k : Nat) (l0 : List (S56)) (a1 : Int) : Option (Int) := laws_heldHaveS.l0 k l0 a1 0
theorem laws_heldHaveS.mono_l : ∀ k, (∀ y0 y1 y2, LeO (laws_heldHaveS.l0 k y0 y1 y2) (laws_heldHaveS.l0 (k + 1) y0 y1 y2))
  | 0 => fun _ _ _ r h => by simp [laws_heldHaveS.l0] at h
  | k + 1 => by
    have ih0 := laws_heldHaveS.mono_l k
    · intro y0 y1 y2
      unfold laws_heldHaveS.l0
      repeat' first
      | (with_reducible exact ih0 _ _ _)
      | (with_reducible exact LeO.refl _)
      | (with_reducible exact LeO.none _)
      | (with_reducible refine LeO.ite ?_ ?_)
      | (with_reducible refine LeO.bind ?_ (fun _ => ?_))
      | exact ih0 _ _ _
      | exact LeO.none _
      | refine LeO.ite ?_ ?_
      | refine LeO.bind ?_ (fun _ => ?_)
theorem laws_heldHaveS.mono : ∀ a0 a1 k, LeO (laws_heldHaveS.f k a0 a1) (laws_heldHaveS.f (k + 1) a0 a1) := by
  intro a0 a1 k
  have ih0 := laws_heldHaveS.mono_l k
  unfold laws_heldHaveS.f
  repeat' first
      | (with_reducible exact ih0 _ _ _)
      | (with_reducible exact LeO.refl _)
      | (with_reducible exact LeO.none _)
      | (with_reducible refine LeO.ite ?_ ?_)
      | (with_reducible refine LeO.bind ?_ (fun _ => ?_))
      | exact ih0 _ _ _
      | exact LeO.none _
      | refine LeO.ite ?_ ?_
      | refine LeO.bind ?_ (fun _ => ?_)
set_option maxHeartbeats 8000000 in
set_option maxRecDepth 100000 in
theorem laws_heldHaveS.calls (k : Nat) (A0 : Option Addr) (c0 : Nat) (l0 : List (S56)) (a1 : Int) (r : Int) (w : World) (hr0 : Kd.C k56 w A0 l0.length l0) (hc0 : l0.length ≤ c0) (h : laws_heldHaveS.f k l0 a1 = some r) :
    Calls Try.prog 29 #[.slice A0 l0.length c0, .int .i64 a1] w fun e w' => e = .returned (.int .i64 r) ∧ Drawn0 w w' := by
  have HR0 := Aside0.mk hr0
  have HC0 := Aside0.mk hc0
  clear hr0 hc0
  have H : (laws_heldHaveS.l0 k l0 a1 0) = some r := h
  clear h
  have H' := Aside0.mk H
  clear H
  go_enter Try.func29, Try.ntmps29
  go_wp2
  go_loopg [1, 5] k (fun kq v1 v5 w' => ∃ (x1_1 : Int) (x5_1 : Int), v1 = .int .i64 x1_1 ∧ v5 = .int .i64 x5_1 ∧ Aside0 (laws_heldHaveS.l0 kq l0 x1_1 x5_1 = some r) ∧ Aside0 (kq ≤ k) ∧ Drawn0 w w')
  case atStart => exact ⟨(a1), (0), (by first | rfl | (simp; done) | (simp [*]; done)), (by first | rfl | (simp; done) | (simp [*]; done)), H', ⟨Nat.le_refl _⟩, by repeat (first | exact Drawn0.refl _ | apply Drawn0.step)⟩
  case round =>
    clear H'
    try clear c2
    try clear p2
    obtain ⟨x1_1, x5_1, rfl, rfl, HA, HK1, ⟨m1, rfl⟩⟩ := hrel
    cases gk with
    | zero => exact absurd HA.out (by simp [laws_heldHaveS.l0])
    | succ k1 =>
      have H := HA.out
      clear HA
      simp only [laws_heldHaveS.l0] at H
      by_cases c3 : x5_1 < (l0.length : Int)
      · rw [if_pos c3] at H
        have c3b0 : decide (x5_1 < (l0.length : Int)) = true := decide_eq_true c3
        clear c3
        by_cases c4 : 0 ≤ x5_1
        · rw [if_pos c4] at H
          have c4b0 : decide (0 ≤ x5_1) = true := decide_eq_true c4
          clear c4
          by_cases c5 : ((rd_T56 l0 x5_1).f0) = x1_1
          · rw [if_pos c5] at H
            have c5b0 : (((rd_T56 l0 x5_1).f0) == x1_1) = true := beq_iff_eq.mpr c5
            have c5b1 : (((rd_T56 l0 x5_1).f0) != x1_1) = false := bne_eq_false_iff_eq.mpr c5
            clear c5
            by_cases c6 : ((rd_T56 l0 x5_1).f1) = (wrap64 (x1_1 + 1))
            · rw [if_pos c6] at H
              have c6b0 : (((rd_T56 l0 x5_1).f1) == (wrap64 (x1_1 + 1))) = true := beq_iff_eq.mpr c6
              have c6b1 : (((rd_T56 l0 x5_1).f1) != (wrap64 (x1_1 + 1))) = false := bne_eq_false_iff_eq.mpr c6
              clear c6
              have H' := Aside0.mk H
              clear H
              have p206 : 0 ≤ (x5_1 : Int) := of_decide_eq_true (by first | (with_reducible assumption) | assumption)
              have q206 : x5_1 < (l0.length : Int) := of_decide_eq_true (by first | (with_reducible assumption) | assumption)
              obtain ⟨ad206, e206, hx206_0, hx206_1⟩ := at_T56 HR0.out x5_1 p206 q206
              cases e206
              replace p206 := eq_true p206
              replace q206 := eq_true q206
              have p207 : 0 ≤ (x5_1 : Int) := of_decide_eq_true (by first | (with_reducible assumption) | assumption)
              have q207 : x5_1 < (l0.length : Int) := of_decide_eq_true (by first | (with_reducible assumption) | assumption)
              obtain ⟨ad207, e207, hx207_0, hx207_1⟩ := at_T56 HR0.out x5_1 p207 q207
              obtain rfl : ad206 = ad207 := (by injection e207)
              replace p207 := eq_true p207
              replace q207 := eq_true q207
              go_wp2
              go_roundg k1
              case measure => have := HK1.out; omega
              case rel => exact ⟨(wrap64 ((wrap64 (x1_1 + 1)) + 1)), (wrap64 (x5_1 + 1)), (by first | rfl | (simp; done) | (simp [*]; done)), (by first | rfl | (simp; done) | (simp [*]; done)), H', ⟨by have := HK1.out; omega⟩, by repeat (first | exact Drawn0.refl _ | apply Drawn0.step)⟩
            · rw [if_neg c6] at H
              have c6b0 : (((rd_T56 l0 x5_1).f1) == (wrap64 (x1_1 + 1))) = false := beq_eq_false_iff_ne.mpr c6
              have c6b1 : (((rd_T56 l0 x5_1).f1) != (wrap64 (x1_1 + 1))) = true := bne_iff_ne.mpr c6
              obtain rfl := Option.some.inj H
              have p206 : 0 ≤ (x5_1 : Int) := of_decide_eq_true (by first | (with_reducible assumption) | assumption)
              have q206 : x5_1 < (l0.length : Int) := of_decide_eq_true (by first | (with_reducible assumption) | assumption)
              obtain ⟨ad206, e206, hx206_0, hx206_1⟩ := at_T56 HR0.out x5_1 p206 q206
              cases e206
              replace p206 := eq_true p206
              replace q206 := eq_true q206
              have p207 : 0 ≤ (x5_1 : Int) := of_decide_eq_true (by first | (with_reducible assumption) | assumption)
              have q207 : x5_1 < (l0.length : Int) := of_decide_eq_true (by first | (with_reducible assumption) | assumption)
              obtain ⟨ad207, e207, hx207_0, hx207_1⟩ := at_T56 HR0.out x5_1 p207 q207
              obtain rfl : ad206 = ad207 := (by injection e207)
              replace p207 := eq_true p207
              replace q207 := eq_true q207
              go_wp2
              go_ret
              exact ⟨by first | rfl | (simp; done) | (simp [*]; done), by repeat (first | exact Drawn0.refl _ | apply Drawn0.step)⟩
          · rw [if_neg c5] at H
            have c5b0 : (((rd_T56 l0 x5_1).f0) == x1_1) = false := beq_eq_false_iff_ne.mpr c5
            have c5b1 : (((rd_T56 l0 x5_1).f0) != x1_1) = true := bne_iff_ne.mpr c5
            obtain rfl := Option.some.inj H
            have p206 : 0 ≤ (x5_1 : Int) := of_decide_eq_true (by first | (with_reducible assumption) | assumption)
            have q206 : x5_1 < (l0.length : Int) := of_decide_eq_true (by first | (with_reducible assumption) | assumption)
            obtain ⟨ad206, e206, hx206_0, hx206_1⟩ := at_T56 HR0.out x5_1 p206 q206
            cases e206
            replace p206 := eq_true p206
            replace q206 := eq_true q206
            go_wp2
            go_ret
            exact ⟨by first | rfl | (simp; done) | (simp [*]; done), by repeat (first | exact Drawn0.refl _ | apply Drawn0.step)⟩
        · rw [if_neg c4] at H
          exact absurd H (by simp)
      · rw [if_neg c3] at H
        have c3b0 : decide (x5_1 < (l0.length : Int)) = false := decide_eq_false c3
        clear c3
        obtain rfl := Option.some.inj H
        go_wp2
        go_ret
        exact ⟨by first | rfl | (simp; done) | (simp [*]; done), by repeat (first | exact Drawn0.refl _ | apply Drawn0.step)⟩

/-! ### laws_FnExactMergeHaves: function 7 (the way on which all tests hold) -/
def laws_FnExactMergeHaves.f (k : Nat) (l0 : List (S60)) (l1 : List (S60)) : Option (Bool) := (laws_szHaveS.f l0 1048576).bind fun s0 => (if s0 < 0 then some true else ((laws_szHaveS.f l1 s0).bind fun s1 => (if s1 < 0 then some true else ((laws_toHaveS.f k l0).bind fun x0 => ((laws_toHaveS.f k l1).bind fun x1 => ((spec_MergeHaves.f k x0 x1).bind fun r => ((impl_MergeHaves.f k x0 x1).bind fun q => ((laws_eqHaveS.f k q.1 r.1).bind fun u0 => (if u0 = true then (if q.2 = r.2 then ((laws_eqHaveS.f k x0 x0).bind fun t0 => (if t0 = true then ((laws_eqHaveS.f k x1 x1).bind fun t1 => (if t1 = true then ((laws_markHaveS.f k x0 1).bind fun m0 => ((laws_markHaveS.f k x1 m0.1).bind fun m1 => (if 0 ≤ m1.1 then ((laws_markHaveS.f k q.1 1).bind fun n0 => ((laws_heldHaveS.f k n0.2 1).bind fun p0 => (if p0 = n0.1 then (if 0 ≤ p0 then (some true) else none) else none))) else none))) else none)) else none)) else none) else none)))))))))
set_option maxHeartbeats 8000000 in
set_option maxRecDepth 100000 in
theorem laws_FnExactMergeHaves.calls (k : Nat) (A0 : Option Addr) (c0 : Nat) (l0 : List (S60)) (A1 : Option Addr) (c1 : Nat) (l1 : List (S60)) (r : Bool) (w : World) (hr0 : Kd.C k60 w A0 l0.length l0) (hc0 : l0.length ≤ c0) (hr1 : Kd.C k60 w A1 l1.length l1) (hc1 : l1.length ≤ c1) (h : laws_FnExactMergeHaves.f k l0 l1 = some r) :
    Calls Try.prog 7 #[.slice A0 l0.length c0, .slice A1 l1.length c1] w fun e w' => e = .returned (.bool r) ∧ Below w.heap.size w w' := by
  have H := h
  clear h
  unfold laws_FnExactMergeHaves.f at H
  have HR0 := Aside0.mk hr0
  have HC0 := Aside0.mk hc0
  clear hr0 hc0
  have HR1 := Aside0.mk hr1
  have HC1 := Aside0.mk hc1
  clear hr1 hc1
  have HB0 := Aside0.mk (Below.refl w.heap.size w)
  go_enter Try.func7, Try.ntmps7
  replace H := Option.bind_eq_some_iff.mp H
  obtain ⟨s0, B0_, H⟩ := H
  have BS0 := Aside0.mk B0_
  clear B0_
  by_cases cs0 : s0 < 0
  · rw [if_pos cs0] at H
    obtain rfl := Option.some.inj H
    have cb0 : decide (s0 < 0) = true := decide_eq_true cs0
    clear cs0
    go_wp2_with fail
    refine (laws_szHaveS.calls _ _ l0 1048576 s0 w (Kd.C_below HR0.out HB0.out) (HC0.out) BS0.out).mono ?_
    rintro e w1_ ⟨rfl, hb0_⟩
    have hb_ := hb0_.below
    clear hb0_
    have HB1 := Aside0.mk (below_step HB0.out hb_)
    have hz1 : w.heap.size ≤ w1_.heap.size := hb_.size
    clear hb_
    go_wp2
    go_ret
    exact ⟨rfl, HB1.out⟩
  rw [if_neg cs0] at H
  have cb0 : decide (s0 < 0) = false := decide_eq_false cs0
  clear cs0
  go_wp2_with fail
  refine (laws_szHaveS.calls _ _ l0 1048576 s0 w (Kd.C_below HR0.out HB0.out) (HC0.out) BS0.out).mono ?_
  rintro e w1_ ⟨rfl, hb0_⟩
  have hb_ := hb0_.below
  clear hb0_
  have HB1 := Aside0.mk (below_step HB0.out hb_)
  have hz1 : w.heap.size ≤ w1_.heap.size := hb_.size
  clear hb_
  replace H := Option.bind_eq_some_iff.mp H
  obtain ⟨s1, B1_, H⟩ := H
  have BS1 := Aside0.mk B1_
  clear B1_
  by_cases cs1 : s1 < 0
  · rw [if_pos cs1] at H
    obtain rfl := Option.some.inj H
    have cb1 : decide (s1 < 0) = true := decide_eq_true cs1
    clear cs1
    go_wp2_with fail
    refine (laws_szHaveS.calls _ _ l1 s0 s1 w1_ (Kd.C_below HR1.out HB1.out) (HC1.out) BS1.out).mono ?_
    rintro e w2_ ⟨rfl, hb0_⟩
    have hb_ := hb0_.below
    clear hb0_
    have HB2 := Aside0.mk (below_step HB1.out hb_)
    have hz2 : w1_.heap.size ≤ w2_.heap.size := hb_.size
    clear hb_
    go_wp2
    go_ret
    exact ⟨rfl, HB2.out⟩
  rw [if_neg cs1] at H
  have cb1 : decide (s1 < 0) = false := decide_eq_false cs1
  clear cs1
  go_wp2_with fail
  refine (laws_szHaveS.calls _ _ l1 s0 s1 w1_ (Kd.C_below HR1.out HB1.out) (HC1.out) BS1.out).mono ?_
  rintro e w2_ ⟨rfl, hb0_⟩
  have hb_ := hb0_.below
  clear hb0_
  have HB2 := Aside0.mk (below_step HB1.out hb_)
  have hz2 : w1_.heap.size ≤ w2_.heap.size := hb_.size
  clear hb_
  replace H := Option.bind_eq_some_iff.mp H
  obtain ⟨x0, B_BT0, H⟩ := H
  have BT0 := Aside0.mk B_BT0
  clear B_BT0
  replace H := Option.bind_eq_some_iff.mp H
  obtain ⟨x1, B_BT1, H⟩ := H
  have BT1 := Aside0.mk B_BT1
  clear B_BT1
  replace H := Option.bind_eq_some_iff.mp H
  obtain ⟨⟨r0, r1⟩, B_BP, H⟩ := H
  have BP := Aside0.mk B_BP
  clear B_BP
  replace H := Option.bind_eq_some_iff.mp H
  obtain ⟨⟨q0, q1⟩, B_BI, H⟩ := H
  have BI := Aside0.mk B_BI
  clear B_BI
  replace H := Option.bind_eq_some_iff.mp H
  obtain ⟨u0, B_BU0, H⟩ := H
  have BU0 := Aside0.mk B_BU0
  clear B_BU0
  by_cases cu0 : u0 = true
  case neg => rw [if_neg cu0] at H; exact absurd H (by simp)
  rw [if_pos cu0] at H
  subst cu0
  by_cases cq1 : q1 = r1
  case neg => rw [if_neg cq1] at H; exact absurd H (by simp)
  rw [if_pos cq1] at H
  replace cq1 : q1 = r1 := cq1
  subst cq1
  replace H := Option.bind_eq_some_iff.mp H
  obtain ⟨t0, B_BE0, H⟩ := H
  have BE0 := Aside0.mk B_BE0
  clear B_BE0
  by_cases ct0 : t0 = true
  case neg => rw [if_neg ct0] at H; exact absurd H (by simp)
  rw [if_pos ct0] at H
  subst ct0
  replace H := Option.bind_eq_some_iff.mp H
  obtain ⟨t1, B_BE1, H⟩ := H
  have BE1 := Aside0.mk B_BE1
  clear B_BE1
  by_cases ct1 : t1 = true
  case neg => rw [if_neg ct1] at H; exact absurd H (by simp)
  rw [if_pos ct1] at H
  subst ct1
  replace H := Option.bind_eq_some_iff.mp H
  obtain ⟨⟨m0, y0⟩, B_BM0, H⟩ := H
  have BM0 := Aside0.mk B_BM0
  clear B_BM0
  replace H := Option.bind_eq_some_iff.mp H
  obtain ⟨⟨m1, y1⟩, B_BM1, H⟩ := H
  have BM1 := Aside0.mk B_BM1
  clear B_BM1
  by_cases cm : 0 ≤ m1
  case neg => rw [if_neg cm] at H; exact absurd H (by simp)
  rw [if_pos cm] at H
  have cmb : decide (m1 < 0) = false := decide_eq_false (by omega)
  clear cm
  replace H := Option.bind_eq_some_iff.mp H
  obtain ⟨⟨n0, z0⟩, B_BN, H⟩ := H
  have BN := Aside0.mk B_BN
  clear B_BN
  replace H := Option.bind_eq_some_iff.mp H
  obtain ⟨p0, B_BH, H⟩ := H
  have BH := Aside0.mk B_BH
  clear B_BH
  by_cases cp : p0 = n0
  case neg => rw [if_neg cp] at H; exact absurd H (by simp)
  rw [if_pos cp] at H
  subst cp
  by_cases cn : 0 ≤ p0
  case neg => rw [if_neg cn] at H; exact absurd H (by simp)
  rw [if_pos cn] at H
  have cnb : decide (p0 < 0) = false := decide_eq_false (by omega)
  clear cn
  obtain rfl := Option.some.inj H
  clear H
  go_wp2_with fail
  refine (laws_toHaveS.calls k _ _ l0 x0 w2_ (Kd.C_below HR0.out HB2.out) (HC0.out) BT0.out).mono ?_
  rintro e w3_ ⟨v3_0, rfl, ho0_, hb_⟩
  have HB3 := Aside0.mk (below_step HB2.out hb_)
  have hz3 : w2_.heap.size ≤ w3_.heap.size := hb_.size
  clear hb_
  have F0_n := Aside0.mk (Kd.R_lower (Kd.R_mono (Kd.R_bound ho0_) (fun k_ hk => (⟨hk.2.1, hk.2.2.1⟩ : w2_.heap.size ≤ k_ ∧ k_ < w3_.heap.size))) (show w.heap.size ≤ w2_.heap.size by omega))
  obtain ⟨A_F0, c_F0, ev_F0⟩ := Kd.R_slice F0_n.out
  subst ev_F0
  clear ho0_
  go_wp2_with fail
  refine (laws_toHaveS.calls k _ _ l1 x1 w3_ (Kd.C_below HR1.out HB3.out) (HC1.out) BT1.out).mono ?_
  rintro e w4_ ⟨v4_0, rfl, ho0_, hb_⟩
  have HB4 := Aside0.mk (below_step HB3.out hb_)
  have hz4 : w3_.heap.size ≤ w4_.heap.size := hb_.size
  have F0_4 := Aside0.mk (Kd.R_below F0_n.out hb_)
  clear F0_n
  clear hb_
  have F1_n := Aside0.mk (Kd.R_lower (Kd.R_mono (Kd.R_bound ho0_) (fun k_ hk => (⟨hk.2.1, hk.2.2.1⟩ : w3_.heap.size ≤ k_ ∧ k_ < w4_.heap.size))) (show w.heap.size ≤ w3_.heap.size by omega))
  obtain ⟨A_F1, c_F1, ev_F1⟩ := Kd.R_slice F1_n.out
  subst ev_F1
  clear ho0_
  go_wp2_with fail
  refine (spec_MergeHaves.calls k _ _ x0 _ _ x1 r0 q1 w4_ ((Kd.R_reads' F0_4.out).2.2) ((Kd.R_reads' F0_4.out).2.1) ((Kd.R_reads' F1_n.out).2.2) ((Kd.R_reads' F1_n.out).2.1) BP.out).mono ?_
  rintro e w5_ ⟨v5_0, rfl, ho0_, hb_⟩
  have HB5 := Aside0.mk (below_step HB4.out hb_)
  have hz5 : w4_.heap.size ≤ w5_.heap.size := hb_.size
  have F0_5 := Aside0.mk (Kd.R_below F0_4.out hb_)
  clear F0_4
  have F1_5 := Aside0.mk (Kd.R_below F1_n.out hb_)
  clear F1_n
  clear hb_
  have W0_n := Aside0.mk (Kd.R_lower (Kd.R_mono (Kd.R_bound ho0_) (fun k_ hk => (⟨hk.2.1, hk.2.2.1⟩ : w4_.heap.size ≤ k_ ∧ k_ < w5_.heap.size))) (show w.heap.size ≤ w4_.heap.size by omega))
  obtain ⟨A_W0, c_W0, ev_W0⟩ := Kd.R_slice W0_n.out
  subst ev_W0
  clear ho0_
  clear F0_5
  clear F1_5
  go_wp2_with fail
  refine (laws_toHaveS.calls k _ _ l0 x0 w5_ (Kd.C_below HR0.out HB5.out) (HC0.out) BT0.out).mono ?_
  rintro e w6_ ⟨v6_0, rfl, ho0_, hb_⟩
  have HB6 := Aside0.mk (below_step HB5.out hb_)
  have hz6 : w5_.heap.size ≤ w6_.heap.size := hb_.size
  have W0_6 := Aside0.mk (Kd.R_below W0_n.out hb_)
  clear W0_n
  clear hb_
  have X0_n := Aside0.mk (Kd.R_lower (Kd.R_mono (Kd.R_bound ho0_) (fun k_ hk => (⟨hk.2.1, hk.2.2.1⟩ : w5_.heap.size ≤ k_ ∧ k_ < w6_.heap.size))) (show w.heap.size ≤ w5_.heap.size by omega))
  obtain ⟨A_X0, c_X0, ev_X0⟩ := Kd.R_slice X0_n.out
  subst ev_X0
  clear ho0_
  go_wp2_with fail
  refine (laws_toHaveS.calls k _ _ l1 x1 w6_ (Kd.C_below HR1.out HB6.out) (HC1.out) BT1.out).mono ?_
  rintro e w7_ ⟨v7_0, rfl, ho0_, hb_⟩
  have HB7 := Aside0.mk (below_step HB6.out hb_)
  have hz7 : w6_.heap.size ≤ w7_.heap.size := hb_.size
  have W0_7 := Aside0.mk (Kd.R_below W0_6.out hb_)
  clear W0_6
  have X0_7 := Aside0.mk (Kd.R_below X0_n.out hb_)
  clear X0_n
  clear hb_
  have X1_n := Aside0.mk (Kd.R_lower (Kd.R_mono (Kd.R_bound ho0_) (fun k_ hk => (⟨hk.2.1, hk.2.2.1⟩ : w6_.heap.size ≤ k_ ∧ k_ < w7_.heap.size))) (show w.heap.size ≤ w6_.heap.size by omega))
  obtain ⟨A_X1, c_X1, ev_X1⟩ := Kd.R_slice X1_n.out
  subst ev_X1
  clear ho0_
  go_wp2_with fail
  refine (impl_MergeHaves.calls k _ _ x0 _ _ x1 q0 q1 w7_ ((Kd.R_reads' X0_7.out).2.2) ((Kd.R_reads' X0_7.out).2.1) ((Kd.R_reads' X1_n.out).2.2) ((Kd.R_reads' X1_n.out).2.1) BI.out).mono ?_
  rintro e w8_ ⟨v8_0, rfl, ho0_, hb_⟩
  have HB8 := Aside0.mk (below_step HB7.out hb_)
  have hz8 : w7_.heap.size ≤ w8_.heap.size := hb_.size
  have W0_8 := Aside0.mk (Kd.R_below W0_7.out hb_)
  clear W0_7
  have X0_8 := Aside0.mk (Kd.R_below X0_7.out hb_)
  clear X0_7
  have X1_8 := Aside0.mk (Kd.R_below X1_n.out hb_)
  clear X1_n
  clear hb_
  have G0_n := Aside0.mk (Kd.R_lower (Kd.R_mono (Kd.R_bound ho0_) (fun k_ hk => (⟨hk.2.1, hk.2.2.1⟩ : w7_.heap.size ≤ k_ ∧ k_ < w8_.heap.size))) (show w.heap.size ≤ w7_.heap.size by omega))
  obtain ⟨A_G0, c_G0, ev_G0⟩ := Kd.R_slice G0_n.out
  subst ev_G0
  clear ho0_
  go_wp2_with fail
  refine (laws_eqHaveS.calls k _ _ q0 _ _ r0 true w8_ ((Kd.R_reads' G0_n.out).2.2) ((Kd.R_reads' G0_n.out).2.1) ((Kd.R_reads' W0_8.out).2.2) ((Kd.R_reads' W0_8.out).2.1) BU0.out).mono ?_
  rintro e w9_ ⟨rfl, hb0_⟩
  have hb_ := hb0_
  clear hb0_
  have HB9 := Aside0.mk (below_step HB8.out hb_)
  have hz9 : w8_.heap.size ≤ w9_.heap.size := hb_.size
  have W0_9 := Aside0.mk (Kd.R_below W0_8.out hb_)
  clear W0_8
  have X0_9 := Aside0.mk (Kd.R_below X0_8.out hb_)
  clear X0_8
  have X1_9 := Aside0.mk (Kd.R_below X1_8.out hb_)
  clear X1_8
  have G0_9 := Aside0.mk (Kd.R_below G0_n.out hb_)
  clear G0_n
  clear hb_
  go_wp2_with fail
  refine (laws_toHaveS.calls k _ _ l0 x0 w9_ (Kd.C_below HR0.out HB9.out) (HC0.out) BT0.out).mono ?_
  rintro e w10_ ⟨v10_0, rfl, ho0_, hb_⟩
  have HB10 := Aside0.mk (below_step HB9.out hb_)
  have hz10 : w9_.heap.size ≤ w10_.heap.size := hb_.size
  have W0_10 := Aside0.mk (Kd.R_below W0_9.out hb_)
  clear W0_9
  have X0_10 := Aside0.mk (Kd.R_below X0_9.out hb_)
  clear X0_9
  have X1_10 := Aside0.mk (Kd.R_below X1_9.out hb_)
  clear X1_9
  have G0_10 := Aside0.mk (Kd.R_below G0_9.out hb_)
  clear G0_9
  clear hb_
  have Y0_n := Aside0.mk (Kd.R_lower (Kd.R_mono (Kd.R_bound ho0_) (fun k_ hk => (⟨hk.2.1, hk.2.2.1⟩ : w9_.heap.size ≤ k_ ∧ k_ < w10_.heap.size))) (show w.heap.size ≤ w9_.heap.size by omega))
  obtain ⟨A_Y0, c_Y0, ev_Y0⟩ := Kd.R_slice Y0_n.out
  subst ev_Y0
  clear ho0_
  go_wp2_with fail
  refine (laws_eqHaveS.calls k _ _ x0 _ _ x0 true w10_ ((Kd.R_reads' X0_10.out).2.2) ((Kd.R_reads' X0_10.out).2.1) ((Kd.R_reads' Y0_n.out).2.2) ((Kd.R_reads' Y0_n.out).2.1) BE0.out).mono ?_
  rintro e w11_ ⟨rfl, hb0_⟩
  have hb_ := hb0_
  clear hb0_
  have HB11 := Aside0.mk (below_step HB10.out hb_)
  have hz11 : w10_.heap.size ≤ w11_.heap.size := hb_.size
  have W0_11 := Aside0.mk (Kd.R_below W0_10.out hb_)
  clear W0_10
  have X0_11 := Aside0.mk (Kd.R_below X0_10.out hb_)
  clear X0_10
  have X1_11 := Aside0.mk (Kd.R_below X1_10.out hb_)
  clear X1_10
  have G0_11 := Aside0.mk (Kd.R_below G0_10.out hb_)
  clear G0_10
  have Y0_11 := Aside0.mk (Kd.R_below Y0_n.out hb_)
  clear Y0_n
  clear hb_
  clear Y0_11
  go_wp2_with fail
  refine (laws_toHaveS.calls k _ _ l1 x1 w11_ (Kd.C_below HR1.out HB11.out) (HC1.out) BT1.out).mono ?_
  rintro e w12_ ⟨v12_0, rfl, ho0_, hb_⟩
  have HB12 := Aside0.mk (below_step HB11.out hb_)
  have hz12 : w11_.heap.size ≤ w12_.heap.size := hb_.size
  have W0_12 := Aside0.mk (Kd.R_below W0_11.out hb_)
  clear W0_11
  have X0_12 := Aside0.mk (Kd.R_below X0_11.out hb_)
  clear X0_11
  have X1_12 := Aside0.mk (Kd.R_below X1_11.out hb_)
  clear X1_11
  have G0_12 := Aside0.mk (Kd.R_below G0_11.out hb_)
  clear G0_11
  clear hb_
  have Y1_n := Aside0.mk (Kd.R_lower (Kd.R_mono (Kd.R_bound ho0_) (fun k_ hk => (⟨hk.2.1, hk.2.2.1⟩ : w11_.heap.size ≤ k_ ∧ k_ < w12_.heap.size))) (show w.heap.size ≤ w11_.heap.size by omega))
  obtain ⟨A_Y1, c_Y1, ev_Y1⟩ := Kd.R_slice Y1_n.out
  subst ev_Y1
  clear ho0_
  go_wp2_with fail
  refine (laws_eqHaveS.calls k _ _ x1 _ _ x1 true w12_ ((Kd.R_reads' X1_12.out).2.2) ((Kd.R_reads' X1_12.out).2.1) ((Kd.R_reads' Y1_n.out).2.2) ((Kd.R_reads' Y1_n.out).2.1) BE1.out).mono ?_
  rintro e w13_ ⟨rfl, hb0_⟩
  have hb_ := hb0_
  clear hb0_
  have HB13 := Aside0.mk (below_step HB12.out hb_)
  have hz13 : w12_.heap.size ≤ w13_.heap.size := hb_.size
  have W0_13 := Aside0.mk (Kd.R_below W0_12.out hb_)
  clear W0_12
  have X0_13 := Aside0.mk (Kd.R_below X0_12.out hb_)
  clear X0_12
  have X1_13 := Aside0.mk (Kd.R_below X1_12.out hb_)
  clear X1_12
  have G0_13 := Aside0.mk (Kd.R_below G0_12.out hb_)
  clear G0_12
  have Y1_13 := Aside0.mk (Kd.R_below Y1_n.out hb_)
  clear Y1_n
  clear hb_
  clear Y1_13
  go_wp2_with fail
  refine (laws_markHaveS.calls k (fun k_ => w5_.heap.size ≤ k_ ∧ k_ < w6_.heap.size) (.slice A_X0 x0.length c_X0) x0 1 m0 y0 w w13_ HB13.out X0_13.out BM0.out).mono ?_
  rintro e w14_ ⟨rfl, ho_, hb_, hk_⟩
  replace ho_ := Kd.R_mono (Kd.R_tight rfl ho_) (fun k_ hk => X0_13.out.1 k_ hk.symm)
  have HB14 := Aside0.mk hb_
  have hz14 : w13_.heap.size ≤ w14_.heap.size := hk_.1
  clear X0_13
  have W0_14 := Aside0.mk (Kd.R_kept W0_13.out hk_ (fun k_ h1_ h2_ => by omega))
  clear W0_13
  have X1_14 := Aside0.mk (Kd.R_kept X1_13.out hk_ (fun k_ h1_ h2_ => by omega))
  clear X1_13
  have G0_14 := Aside0.mk (Kd.R_kept G0_13.out hk_ (fun k_ h1_ h2_ => by omega))
  clear G0_13
  have X0_w := Aside0.mk ho_
  clear hb_ hk_ ho_
  have el_X0 : x0.length = y0.length := (Kd.R_reads' X0_w.out).1
  have EL_X0 := Aside0.mk el_X0
  clear el_X0
  clear X0_w
  go_wp2_with fail
  refine (laws_markHaveS.calls k (fun k_ => w6_.heap.size ≤ k_ ∧ k_ < w7_.heap.size) (.slice A_X1 x1.length c_X1) x1 m0 m1 y1 w w14_ HB14.out X1_14.out BM1.out).mono ?_
  rintro e w15_ ⟨rfl, ho_, hb_, hk_⟩
  replace ho_ := Kd.R_mono (Kd.R_tight rfl ho_) (fun k_ hk => X1_14.out.1 k_ hk.symm)
  have HB15 := Aside0.mk hb_
  have hz15 : w14_.heap.size ≤ w15_.heap.size := hk_.1
  clear X1_14
  have W0_15 := Aside0.mk (Kd.R_kept W0_14.out hk_ (fun k_ h1_ h2_ => by omega))
  clear W0_14
  have G0_15 := Aside0.mk (Kd.R_kept G0_14.out hk_ (fun k_ h1_ h2_ => by omega))
  clear G0_14
  have X1_w := Aside0.mk ho_
  clear hb_ hk_ ho_
  have el_X1 : x1.length = y1.length := (Kd.R_reads' X1_w.out).1
  have EL_X1 := Aside0.mk el_X1
  clear el_X1
  clear X1_w
  go_wp2_with fail
  refine (laws_eqHaveS.calls k _ _ q0 _ _ r0 true w15_ ((Kd.R_reads' G0_15.out).2.2) ((Kd.R_reads' G0_15.out).2.1) ((Kd.R_reads' W0_15.out).2.2) ((Kd.R_reads' W0_15.out).2.1) BU0.out).mono ?_
  rintro e w16_ ⟨rfl, hb0_⟩
  have hb_ := hb0_
  clear hb0_
  have HB16 := Aside0.mk (below_step HB15.out hb_)
  have hz16 : w15_.heap.size ≤ w16_.heap.size := hb_.size
  have W0_16 := Aside0.mk (Kd.R_below W0_15.out hb_)
  clear W0_15
  have G0_16 := Aside0.mk (Kd.R_below G0_15.out hb_)
  clear G0_15
  clear hb_
  go_wp2_with fail
  refine (laws_markHaveS.calls k (fun k_ => w7_.heap.size ≤ k_ ∧ k_ < w8_.heap.size) (.slice A_G0 q0.length c_G0) q0 1 p0 z0 w w16_ HB16.out G0_16.out BN.out).mono ?_
  rintro e w17_ ⟨rfl, ho_, hb_, hk_⟩
  replace ho_ := Kd.R_mono (Kd.R_tight rfl ho_) (fun k_ hk => G0_16.out.1 k_ hk.symm)
  have HB17 := Aside0.mk hb_
  have hz17 : w16_.heap.size ≤ w17_.heap.size := hk_.1
  clear G0_16
  have W0_17 := Aside0.mk (Kd.R_kept W0_16.out hk_ (fun k_ h1_ h2_ => by omega))
  clear W0_16
  have G0_w := Aside0.mk ho_
  clear hb_ hk_ ho_
  have el_G0 : q0.length = z0.length := (Kd.R_reads' G0_w.out).1
  have EL_G0 := Aside0.mk el_G0
  clear el_G0
  have hx_ := (Kd.R_reads' G0_w.out)
  go_wp2_with fail
  (try rw [EL_G0.out])
  rw [EL_G0.out] at hx_
  refine (laws_heldHaveS.calls k _ _ z0 1 p0 w17_ hx_.2.2 hx_.2.1 BH.out).mono ?_
  clear hx_
  rintro e w18_ ⟨rfl, hb0_⟩
  have hb_ := hb0_.below
  clear hb0_
  have HB18 := Aside0.mk (below_step HB17.out hb_)
  have hz18 : w17_.heap.size ≤ w18_.heap.size := hb_.size
  have W0_18 := Aside0.mk (Kd.R_below W0_17.out hb_)
  clear W0_17
  have G0_18 := Aside0.mk (Kd.R_below G0_w.out hb_)
  clear G0_w
  clear hb_
  go_wp2_with fail
  refine (laws_toHaveS.calls k _ _ l0 x0 w18_ (Kd.C_below HR0.out HB18.out) (HC0.out) BT0.out).mono ?_
  rintro e w19_ ⟨v19_0, rfl, ho0_, hb_⟩
  have HB19 := Aside0.mk (below_step HB18.out hb_)
  have hz19 : w18_.heap.size ≤ w19_.heap.size := hb_.size
  have W0_19 := Aside0.mk (Kd.R_below W0_18.out hb_)
  clear W0_18
  have G0_19 := Aside0.mk (Kd.R_below G0_18.out hb_)
  clear G0_18
  clear hb_
  have Z0_n := Aside0.mk (Kd.R_lower (Kd.R_mono (Kd.R_bound ho0_) (fun k_ hk => (⟨hk.2.1, hk.2.2.1⟩ : w18_.heap.size ≤ k_ ∧ k_ < w19_.heap.size))) (show w.heap.size ≤ w18_.heap.size by omega))
  obtain ⟨A_Z0, c_Z0, ev_Z0⟩ := Kd.R_slice Z0_n.out
  subst ev_Z0
  clear ho0_
  go_wp2_with fail
  refine (laws_toHaveS.calls k _ _ l1 x1 w19_ (Kd.C_below HR1.out HB19.out) (HC1.out) BT1.out).mono ?_
  rintro e w20_ ⟨v20_0, rfl, ho0_, hb_⟩
  have HB20 := Aside0.mk (below_step HB19.out hb_)
  have hz20 : w19_.heap.size ≤ w20_.heap.size := hb_.size
  have W0_20 := Aside0.mk (Kd.R_below W0_19.out hb_)
  clear W0_19
  have G0_20 := Aside0.mk (Kd.R_below G0_19.out hb_)
  clear G0_19
  have Z0_20 := Aside0.mk (Kd.R_below Z0_n.out hb_)
  clear Z0_n
  clear hb_
  have Z1_n := Aside0.mk (Kd.R_lower (Kd.R_mono (Kd.R_bound ho0_) (fun k_ hk => (⟨hk.2.1, hk.2.2.1⟩ : w19_.heap.size ≤ k_ ∧ k_ < w20_.heap.size))) (show w.heap.size ≤ w19_.heap.size by omega))
  obtain ⟨A_Z1, c_Z1, ev_Z1⟩ := Kd.R_slice Z1_n.out
  subst ev_Z1
  clear ho0_
  go_wp2_with fail
  refine (impl_MergeHaves.calls k _ _ x0 _ _ x1 q0 q1 w20_ ((Kd.R_reads' Z0_20.out).2.2) ((Kd.R_reads' Z0_20.out).2.1) ((Kd.R_reads' Z1_n.out).2.2) ((Kd.R_reads' Z1_n.out).2.1) BI.out).mono ?_
  rintro e w21_ ⟨v21_0, rfl, ho0_, hb_⟩
  have HB21 := Aside0.mk (below_step HB20.out hb_)
  have hz21 : w20_.heap.size ≤ w21_.heap.size := hb_.size
  have W0_21 := Aside0.mk (Kd.R_below W0_20.out hb_)
  clear W0_20
  have G0_21 := Aside0.mk (Kd.R_below G0_20.out hb_)
  clear G0_20
  have Z0_21 := Aside0.mk (Kd.R_below Z0_20.out hb_)
  clear Z0_20
  have Z1_21 := Aside0.mk (Kd.R_below Z1_n.out hb_)
  clear Z1_n
  clear hb_
  have H0_n := Aside0.mk (Kd.R_lower (Kd.R_mono (Kd.R_bound ho0_) (fun k_ hk => (⟨hk.2.1, hk.2.2.1⟩ : w20_.heap.size ≤ k_ ∧ k_ < w21_.heap.size))) (show w.heap.size ≤ w20_.heap.size by omega))
  obtain ⟨A_H0, c_H0, ev_H0⟩ := Kd.R_slice H0_n.out
  subst ev_H0
  clear ho0_
  go_wp2_with fail
  refine (laws_eqHaveS.calls k _ _ q0 _ _ r0 true w21_ ((Kd.R_reads' H0_n.out).2.2) ((Kd.R_reads' H0_n.out).2.1) ((Kd.R_reads' W0_21.out).2.2) ((Kd.R_reads' W0_21.out).2.1) BU0.out).mono ?_
  rintro e w22_ ⟨rfl, hb0_⟩
  have hb_ := hb0_
  clear hb0_
  have HB22 := Aside0.mk (below_step HB21.out hb_)
  have hz22 : w21_.heap.size ≤ w22_.heap.size := hb_.size
  have W0_22 := Aside0.mk (Kd.R_below W0_21.out hb_)
  clear W0_21
  have G0_22 := Aside0.mk (Kd.R_below G0_21.out hb_)
  clear G0_21
  have Z0_22 := Aside0.mk (Kd.R_below Z0_21.out hb_)
  clear Z0_21
  have Z1_22 := Aside0.mk (Kd.R_below Z1_21.out hb_)
  clear Z1_21
  have H0_22 := Aside0.mk (Kd.R_below H0_n.out hb_)
  clear H0_n
  clear hb_
  have hx_ := (Kd.R_reads' G0_22.out)
  go_wp2_with fail
  (try rw [EL_G0.out])
  rw [EL_G0.out] at hx_
  refine (laws_heldHaveS.calls k _ _ z0 1 p0 w22_ hx_.2.2 hx_.2.1 BH.out).mono ?_
  clear hx_
  rintro e w23_ ⟨rfl, hb0_⟩
  have hb_ := hb0_.below
  clear hb0_
  have HB23 := Aside0.mk (below_step HB22.out hb_)
  have hz23 : w22_.heap.size ≤ w23_.heap.size := hb_.size
  have W0_23 := Aside0.mk (Kd.R_below W0_22.out hb_)
  clear W0_22
  have G0_23 := Aside0.mk (Kd.R_below G0_22.out hb_)
  clear G0_22
  have Z0_23 := Aside0.mk (Kd.R_below Z0_22.out hb_)
  clear Z0_22
  have Z1_23 := Aside0.mk (Kd.R_below Z1_22.out hb_)
  clear Z1_22
  have H0_23 := Aside0.mk (Kd.R_below H0_22.out hb_)
  clear H0_22
  clear hb_
  go_wp2
  go_ret
  exact ⟨rfl, HB23.out⟩

end Go.Proofs.Ytpcimkpklmemnaa.PFnExactMergeHaves
