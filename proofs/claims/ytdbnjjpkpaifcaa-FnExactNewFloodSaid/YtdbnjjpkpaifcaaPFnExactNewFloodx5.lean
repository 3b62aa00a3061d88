-- Written by a program of this project (myprint.py, by way of the kit's printer). Not trusted: Lean checks it.
import Derived.Test.YtdbnjjpkpaifcaaPFnExactNewFloodx0
import Derived.Test.YtdbnjjpkpaifcaaPFnExactNewFloodx4
namespace Go.Proofs.Ytdbnjjpkpaifcaa.PFnExactNewFlood
open Go.RowKit Go.Proofs.YtdbnjjpkpaifcaaW.PrintWords Go.Proofs.YtdbnjjpkpaifcaaW.PrintLast Go.Proofs.YtdbnjjpkpaifcaaW.PrintMore
attribute [local go_sem] max2_int min2_int max_two min_two max_three min_three max_four min_four   -- for this text's walks alone
set_option linter.unusedVariables false
set_option linter.unusedSimpArgs false

/-! ### impl_goodLinks: function 28 -/
theorem w64y (x : Int) (h0 : -9223372036854775808 ≤ x) (h1 : x ≤ 9223372036854775807) : wrap64 x = x := by
  unfold wrap64
  omega
/-- A link lies within the nodes and rises. -/
def lkC (m : Int) (l : List Int) : Bool := decide (l.length = 2) && (decide (0 ≤ rd l 0 ∧ rd l 0 ≤ m) && (decide (0 ≤ rd l 1 ∧ rd l 1 ≤ m) && decide (rd l 0 < rd l 1)))
/-- A link stands behind another one. -/
def lnC (p l : List Int) : Bool := decide (rd p 0 < rd l 0 ∨ rd p 0 = rd l 0 ∧ rd p 1 < rd l 1)
def okAtC (m : Int) (ls : List (List Int)) (i : Nat) : Bool := lkC m (rd_L1 ls i) && (decide (i = 0) || lnC (rd_L1 ls ((i : Int) - 1)) (rd_L1 ls i))
def linksC (n : Int) (ls : List (List Int)) : Bool := (List.range ls.length).all (okAtC (wrap64 (n - 1)) ls) && (decide (1 ≤ n ∧ n ≤ 6) && decide (ls.length ≤ 15))

def impl_goodLinks.f (a0 : Int) (l1 : List (List Int)) : Option Bool := if l1.length ≤ 1000000000 then some (linksC a0 l1) else none
theorem allIn2 (l : List Int) (lo hi : Int) (h : l.length = 2) : impl_allIn.f 5 l lo hi = some (decide (lo ≤ rd l 0 ∧ rd l 0 ≤ hi) && decide (lo ≤ rd l 1 ∧ rd l 1 ≤ hi)) := by
  obtain ⟨x, y, rfl⟩ : ∃ x y, l = [x, y] := by
    match l, h with
    | [x, y], _ => exact ⟨x, y, rfl⟩
  have e1 : wrap64 (0 + 1) = 1 := by rw [w64y _ (by omega) (by omega)]; rfl
  have e2 : wrap64 (1 + 1) = 2 := by rw [w64y _ (by omega) (by omega)]; rfl
  have hin : ∀ a, impl_in.f a lo hi = some (decide (lo ≤ a ∧ a ≤ hi)) := by
    intro a
    unfold impl_in.f
    by_cases h : lo ≤ a
    · rw [if_pos (show a ≥ lo from h)]; simp [h]
    · rw [if_neg (show ¬ a ≥ lo from h)]; simp [h]
  have r0 : rd [x, y] 0 = x := rfl
  have r1 : rd [x, y] 1 = y := rfl
  unfold impl_allIn.f
  simp only [impl_allIn.l0, List.length_cons, List.length_nil, hin, e1, e2, r0, r1, Option.bind_some]
  cases decide (lo ≤ x ∧ x ≤ hi) <;> cases decide (lo ≤ y ∧ y ≤ hi) <;> simp
theorem comp2 (p l : List Int) (hp : p.length = 2) (hl : l.length = 2) : ∃ c, slices_Compare_int_int.f 5 p l = some c ∧ decide (0 ≤ c) = !lnC p l := by
  obtain ⟨x, y, rfl⟩ : ∃ x y, p = [x, y] := by
    match p, hp with
    | [x, y], _ => exact ⟨x, y, rfl⟩
  obtain ⟨u, v, rfl⟩ : ∃ u v, l = [u, v] := by
    match l, hl with
    | [u, v], _ => exact ⟨u, v, rfl⟩
  have e1 : wrap64 (0 + 1) = 1 := by rw [w64y _ (by omega) (by omega)]; rfl
  have e2 : wrap64 (1 + 1) = 2 := by rw [w64y _ (by omega) (by omega)]; rfl
  have hc : ∀ a b : Int, cmp_Compare_int.f a b = some (if a < b then -1 else if a > b then 1 else 0) := by
    intro a b
    unfold cmp_Compare_int.f cmp_isNaN_int.f
    simp only [Option.bind_some, bne_self_eq_false, Bool.false_eq_true, if_false]
    split
    · rfl
    · split <;> rfl
  have r0 : rd [x, y] 0 = x := rfl
  have r1 : rd [x, y] 1 = y := rfl
  have s0 : rd [u, v] 0 = u := rfl
  have s1 : rd [u, v] 1 = v := rfl
  unfold slices_Compare_int_int.f lnC
  simp only [slices_Compare_int_int.l0, List.length_cons, List.length_nil, hc, e1, e2, r0, r1, s0, s1, Option.bind_some]
  by_cases h1 : x < u
  · refine ⟨-1, ?_, ?_⟩
    · simp [h1]
    · simp [h1]
  · by_cases h2 : x > u
    · refine ⟨1, ?_, ?_⟩
      · simp [h1, h2]
      · have : ¬ x = u := by omega
        simp [h1, this]
    · have hxu : x = u := by omega
      subst hxu
      by_cases h3 : y < v
      · refine ⟨-1, ?_, ?_⟩
        · simp [h3]
        · simp [h3]
      · by_cases h4 : y > v
        · refine ⟨1, ?_, ?_⟩
          · simp [h3, h4]
          · simp [h3]
        · have hyv : y = v := by omega
          subst hyv
          refine ⟨0, ?_, ?_⟩
          · simp
          · simp
theorem allIn_q (A : Option Addr) (c : Nat) (l : List Int) (lo hi : Int) (b : Bool) (w : World) (n : Nat) (hr : Kd.C (Kd.int .i64) w A l.length l) (hc : l.length ≤ c) (hf : impl_allIn.f 5 l lo hi = some b) : Calls Try.prog 51 #[.slice A l.length c, .int .i64 lo, .int .i64 hi] (w.drewN n) fun e w'' => e = .returned (.bool b) ∧ ∃ m, w'' = w.drewN m := by
  refine (impl_allIn.calls 5 A c l lo hi b (w.drewN n) (Kd.C_drewN hr n) hc hf).mono ?_
  rintro e w' ⟨rfl, ⟨m, rfl⟩⟩
  exact ⟨rfl, n + m, by rw [World.drewN_drewN]⟩
theorem comp_q (A : Option Addr) (c : Nat) (p : List Int) (A' : Option Addr) (c' : Nat) (l : List Int) (v : Int) (w : World) (n : Nat) (hr : Kd.C (Kd.int .i64) w A p.length p) (hc : p.length ≤ c) (hr' : Kd.C (Kd.int .i64) w A' l.length l) (hc' : l.length ≤ c') (hf : slices_Compare_int_int.f 5 p l = some v) : Calls Try.prog 52 #[.slice A p.length c, .slice A' l.length c'] (w.drewN n) fun e w'' => e = .returned (.int .i64 v) ∧ ∃ m, w'' = w.drewN m := by
  refine (slices_Compare_int_int.calls 5 A c p A' c' l v (w.drewN n) (Kd.C_drewN hr n) hc (Kd.C_drewN hr' n) hc' hf).mono ?_
  rintro e w' ⟨rfl, ⟨m, rfl⟩⟩
  exact ⟨rfl, n + m, by rw [World.drewN_drewN]⟩
set_option maxHeartbeats 8000000 in
set_option maxRecDepth 100000 in
theorem impl_goodLinks.calls (a0 : Int) (A1 : Option Addr) (c1 : Nat) (l1 : List (List Int)) (r : Bool) (w : World) (hr1 : Kd.C (Kd.slice 3 (Kd.int .i64)) w A1 l1.length l1) (hc1 : l1.length ≤ c1) (h : impl_goodLinks.f a0 l1 = some r) :
    Calls Try.prog 28 #[.int .i64 a0, .slice A1 l1.length c1] w fun e w' => e = .returned (.bool r) ∧ Below w.heap.size w w' := by
  have HR1 := Aside0.mk hr1
  have HC1 := Aside0.mk hc1
  clear hr1 hc1
  unfold impl_goodLinks.f at h
  by_cases hn : l1.length ≤ 1000000000
  case neg => rw [if_neg hn] at h; exact absurd h (by simp)
  rw [if_pos hn] at h
  have HE := Aside0.mk (Option.some.inj h)
  clear h
  have HB := Aside0.mk (Below.refl w.heap.size w)
  obtain ⟨m, hm⟩ : ∃ m, m = wrap64 (a0 - 1) := ⟨_, rfl⟩
  have HM := Aside0.mk hm
  clear hm
  go_enter Try.func28, Try.ntmps28
  go_wp2
  go_loopg [9] (l1.length + 1) (fun kq v9 w' => ∃ i : Nat, v9 = .int .i64 i ∧ i ≤ l1.length ∧ Aside0 (kq + i = l1.length + 1) ∧ Aside0 (∀ j, j < i → okAtC m l1 j = true) ∧ Aside0 (Below w.heap.size w w'))
  case atStart => exact ⟨0, rfl, Nat.zero_le _, ⟨rfl⟩, ⟨fun j hj => absurd hj (Nat.not_lt_zero _)⟩, HB⟩
  case round =>
    obtain ⟨i, rfl, hi, HG, HA, HB⟩ := hrel
    cases gk with
    | zero => exact absurd HG.out (by omega)
    | succ k1 =>
    by_cases hlt : i < l1.length
    · obtain ⟨ad, A0, c0, e, hx, hl, hr⟩ := at_L1 HR1.out (i : Int) (by omega) (by omega)
      cases e
      replace hx := (HB.out.cell (World.block_lt_of_cell? w _ hx)).trans hx
      rw [Int.toNat_natCast] at hx
      have HR := Aside0.mk hr
      have HCc := Aside0.mk hl
      clear hr hl
      obtain ⟨l, hl⟩ : ∃ l, l = rd_L1 l1 (i : Int) := ⟨_, rfl⟩
      rw [← hl] at hx HR HCc
      have HLr := Aside0.mk hl
      clear hl
      have d1 : decide ((i : Int) < (l1.length : Int)) = true := decide_eq_true (by omega)
      have d2 : decide (i < l1.length) = true := decide_eq_true hlt
      have hw : IntKind.i64.wrap (a0 - 1) = m := by rw [i64_w]; exact HM.out.symm
      have hw2 : wrap64 (a0 - 1) = m := HM.out.symm
      go_upto_region 4 with (fail)
      go_cut [46] (fun v46 wc => ∃ b : Bool, v46 = .bool b ∧ Aside0 (b = !okAtC m l1 i) ∧ Aside0 (Below w.heap.size w wc))
      case first =>
        have BE := Aside0.mk (show ∀ n, Below w.heap.size w (wr.drewN n) from fun n => by first | exact pw_below_drewN HB.out n | (apply pw_below_drewN; exact HB.out))
        have HRw := Aside0.mk (Kd.C_below HR.out HB.out)
        by_cases h2 : l.length = 2
        case neg =>
          have e0 : ((l.length : Int) != 2) = true := bne_iff_ne.mpr (by omega)
          have HV := Aside0.mk (show true = !okAtC m l1 i by unfold okAtC; rw [← HLr.out]; simp [lkC, h2])
          clear h2
          go_quiet (fail)
          try go_wp2
          go_meet
          case rel => exact ⟨true, rfl, HV, ⟨BE.out _⟩⟩
        have e0 : ((l.length : Int) != 2) = false := bne_eq_false_iff_eq.mpr (by omega)
        have HA2 := Aside0.mk (allIn2 l 0 m h2)
        obtain ⟨ad2, rfl, hx0⟩ := Kd.at_int HR.out 0 (by omega) (by omega)
        obtain ⟨ad3, e3, hx1⟩ := Kd.at_int HR.out 1 (by omega) (by omega)
        obtain rfl : ad2 = ad3 := by injection e3
        clear e3
        replace hx0 := (HB.out.cell (World.block_lt_of_cell? w _ hx0)).trans hx0
        replace hx1 := (HB.out.cell (World.block_lt_of_cell? w _ hx1)).trans hx1
        rw [show ((0 : Int)).toNat = 0 from rfl, Addr.add_zero'] at hx0
        rw [show ((1 : Int)).toNat = 1 from rfl] at hx1
        have hx1w := hx1
        simp only [Nat.reduceMul, Nat.reduceEqDiff, Go.Addr.add, ↓reduceIte] at hx1w
        have q0 : (0 < l.length) = True := eq_true (by omega)
        have q1 : (1 < l.length) = True := eq_true (by omega)
        have p0 : (0 : Int) < (l.length : Int) := by omega
        have p1 : (1 : Int) < (l.length : Int) := by omega
        have H2 := Aside0.mk h2
        clear h2
        obtain ⟨b0, hb0⟩ : ∃ b0, b0 = (decide (0 ≤ rd l 0 ∧ rd l 0 ≤ m) && decide (0 ≤ rd l 1 ∧ rd l 1 ≤ m)) := ⟨_, rfl⟩
        have hlk : lkC m l = (b0 && decide (rd l 0 < rd l 1)) := by unfold lkC; rw [decide_eq_true H2.out, hb0, Bool.true_and, Bool.and_assoc]
        have HF := Aside0.mk (show impl_allIn.f 5 l 0 m = some b0 by rw [hb0]; exact HA2.out)
        clear hb0 HA2
        cases b0
        case false =>
          have HV := Aside0.mk (show true = !okAtC m l1 i by unfold okAtC; rw [← HLr.out, hlk]; simp)
          clear hlk
          go_quiet ((go_at_call 51; exact allIn_q _ _ _ _ _ false _ _ HRw.out HCc.out HF.out))
          try go_wp2
          go_meet
          case rel => exact ⟨true, rfl, HV, ⟨BE.out _⟩⟩
        by_cases hge : rd l 1 ≤ rd l 0
        case pos =>
          have HV := Aside0.mk (show true = !okAtC m l1 i by unfold okAtC; rw [← HLr.out, hlk, decide_eq_false (by omega)]; simp)
          have d0 : decide (rd l 1 ≤ rd l 0) = true := decide_eq_true hge
          clear hlk hge
          go_quiet ((go_at_call 51; exact allIn_q _ _ _ _ _ true _ _ HRw.out HCc.out HF.out))
          try go_wp2
          go_meet
          case rel => exact ⟨true, rfl, HV, ⟨BE.out _⟩⟩
        have HKt := Aside0.mk (show lkC m l = true by rw [hlk, decide_eq_true (by omega)]; rfl)
        have d0 : decide (rd l 1 ≤ rd l 0) = false := decide_eq_false hge
        clear hlk hge
        by_cases hi0 : i = 0
        case pos =>
          have HV := Aside0.mk (show false = !okAtC m l1 i by unfold okAtC; rw [← HLr.out, HKt.out, decide_eq_true hi0]; rfl)
          have g0 : decide ((0 : Int) < (i : Int)) = false := decide_eq_false (by omega)
          have g1 : decide (0 < i) = false := decide_eq_false (by omega)
          clear hi0
          go_quiet ((go_at_call 51; exact allIn_q _ _ _ _ _ true _ _ HRw.out HCc.out HF.out))
          try go_wp2
          go_meet
          case rel => exact ⟨false, rfl, HV, ⟨BE.out _⟩⟩
        obtain ⟨j, rfl⟩ : ∃ j, i = j + 1 := ⟨i - 1, by omega⟩
        have hej : ((j + 1 : Nat) : Int) - 1 = (j : Int) := by omega
        obtain ⟨ad4, Ap, cp, e4, hxp, hlp, hrp⟩ := at_L1 HR1.out (j : Int) (by omega) (by omega)
        obtain rfl : ad = ad4 := by injection e4
        clear e4
        replace hxp := (HB.out.cell (World.block_lt_of_cell? w _ hxp)).trans hxp
        rw [Int.toNat_natCast] at hxp
        obtain ⟨p, hp⟩ : ∃ p, p = rd_L1 l1 (j : Int) := ⟨_, rfl⟩
        rw [← hp] at hxp hlp hrp
        have HPr := Aside0.mk hp
        have hp2 : p.length = 2 := by
          have h := HA.out j (by omega)
          unfold okAtC at h
          rw [← HPr.out, Bool.and_eq_true] at h
          have h1 := h.1
          unfold lkC at h1
          rw [Bool.and_eq_true] at h1
          exact of_decide_eq_true h1.1
        have HRp := Aside0.mk (Kd.C_below hrp HB.out)
        have HCp := Aside0.mk hlp
        obtain ⟨cv, hcv, hcd⟩ := comp2 p l hp2 H2.out
        have HCF := Aside0.mk hcv
        clear hp hlp hrp hcv hp2
        have rj0 : (0 : Int) ≤ (j : Int) := by omega
        have rj1 : (j : Int) < (l1.length : Int) := by omega
        have hwj : IntKind.i64.wrap (((j + 1 : Nat) : Int) - 1) = (j : Int) := by rw [i64_w, w64y _ (by omega) (by omega)]; exact hej
        have hwj2 : IntKind.i64.wrap ((j : Int) + 1 - 1) = (j : Int) := by rw [i64_w, w64y _ (by omega) (by omega)]; omega
        have g0 : decide ((0 : Int) < ((j + 1 : Nat) : Int)) = true := decide_eq_true (by omega)
        have g1 : decide (0 < j + 1) = true := decide_eq_true (by omega)
        have g2 : decide ((0 : Int) < (j : Int) + 1) = true := decide_eq_true (by omega)
        have HV := Aside0.mk (show decide (0 ≤ cv) = !okAtC m l1 (j + 1) by
          unfold okAtC
          rw [← HLr.out, HKt.out, hej, ← HPr.out, decide_eq_false (by omega : ¬ j + 1 = 0), hcd]
          rfl)
        clear hej hcd
        go_quiet (first | (go_at_call 51; exact allIn_q _ _ _ _ _ true _ _ HRw.out HCc.out HF.out) | (go_at_call 52; exact comp_q _ _ _ _ _ _ cv _ _ HRp.out HCp.out HRw.out HCc.out HCF.out))
        try go_wp2
        go_meet
        case rel => exact ⟨_, rfl, HV, ⟨BE.out _⟩⟩
      case rest =>
        obtain ⟨b, rfl, HV, HB⟩ := hcut
        cases ho : okAtC m l1 i
        case false =>
          obtain rfl : b = true := by have := HV.out; rw [ho] at this; exact this
          have hre : r = false := HE.out.symm.trans (by
            unfold linksC
            rw [← HM.out]
            have : (List.range l1.length).all (okAtC m l1) = false := by
              rw [List.all_eq_false]
              exact ⟨i, List.mem_range.2 hlt, by rw [ho]; simp⟩
            rw [this, Bool.false_and])
          subst hre
          clear ho
          go_wp2
          go_ret
          exact ⟨rfl, HB.out⟩
        obtain rfl : b = false := by have := HV.out; rw [ho] at this; exact this
        have HO := Aside0.mk ho
        clear ho
        have hwi : wrap64 ((i : Int) + 1) = ((i + 1 : Nat) : Int) := by rw [w64y _ (by omega) (by omega)]; omega
        have HWI := Aside0.mk hwi
        clear hwi
        go_wp2
        go_roundg k1
        case measure => omega
        case rel => exact ⟨i + 1, by first | rfl | exact congrArg (Value.int .i64) HWI.out | (simp; done), hlt, ⟨by have := HG.out; omega⟩, ⟨fun j hj => by
          rcases Nat.lt_succ_iff_lt_or_eq.1 hj with h | rfl
          · exact HA.out j h
          · exact HO.out⟩, HB⟩
    · obtain rfl : i = l1.length := by omega
      have d1 : decide ((l1.length : Int) < (l1.length : Int)) = false := decide_eq_false (by omega)
      have d2 : decide (l1.length < l1.length) = false := decide_eq_false (by omega)
      obtain ⟨b, hb⟩ : ∃ b, b = decide (1 ≤ a0 ∧ a0 ≤ 6) := ⟨_, rfl⟩
      have hf : impl_in.f a0 1 6 = some b := by
        rw [hb]
        unfold impl_in.f
        by_cases h : 1 ≤ a0
        · rw [if_pos (show a0 ≥ 1 from h)]; simp [h]
        · rw [if_neg (show ¬ a0 ≥ 1 from h)]; simp [h]
      have HF := Aside0.mk hf
      have hre : r = (b && decide (l1.length ≤ 15)) := HE.out.symm.trans (by
        unfold linksC
        rw [← HM.out, hb]
        have : (List.range l1.length).all (okAtC m l1) = true := by
          rw [List.all_eq_true]
          exact fun j hj => HA.out j (List.mem_range.1 hj)
        rw [this, Bool.true_and])
      clear hf hb
      cases b
      case false =>
        rw [Bool.false_and] at hre
        subst hre
        go_wp2_with (first | (go_at_call 49; (with_reducible refine (impl_in.calls a0 1 6 false _ HF.out).mono ?_); rintro e w5 ⟨rfl, hd⟩; have HB5 := Aside0.mk (below_step HB.out hd.below); clear hd))
        go_ret
        exact ⟨rfl, HB5.out⟩
      case true =>
        rw [Bool.true_and] at hre
        have HRe := Aside0.mk hre
        clear hre
        go_wp2_with (first | (go_at_call 49; (with_reducible refine (impl_in.calls a0 1 6 true _ HF.out).mono ?_); rintro e w5 ⟨rfl, hd⟩; have HB5 := Aside0.mk (below_step HB.out hd.below); clear hd))
        go_ret
        refine ⟨?_, HB5.out⟩
        rw [HRe.out]
        simp
        omega

/-! ### slices_Clone_int_int: function 63 -/
theorem slices_Clone_int_int.info : (Try.prog.info? 3).map (fun i => (i.zero, i.size, i.bytes)) = some (some (.int .i64 0), 1, 8) := by kernel_rfl
def slices_Clone_int_int.f (l0 : List (Int)) : Option (List (Int)) := if l0.length < 17592186044416 then some l0 else none
set_option maxHeartbeats 8000000 in
set_option maxRecDepth 100000 in
theorem slices_Clone_int_int.calls (A0 : Option Addr) (c0 : Nat) (l0 : List (Int)) (r : List (Int)) (w : World) (hr0 : Kd.C (Kd.int .i64) w A0 l0.length l0) (hc0 : l0.length ≤ c0) (h : slices_Clone_int_int.f l0 = some r) :
    Calls Try.prog 63 #[.slice A0 l0.length c0] w fun e w' => ∃ v0_ : Value, e = .returned (v0_) ∧ Kd.R (Kd.int .i64) 3 w' w.heap.size (fun _ => True) v0_ r ∧ Below w.heap.size w w' := by
  have q46 : ∀ (w : World) (a : Option Addr) (n c : Nat), (binOp .eql 46 (.slice a n c) (.slice none 0 0)).run Try.prog w = .ok (.bool a.isNone) w := fun w a n c => Lib.run_eql_slice_nil w 46 3 a n c 0 0 Try.underlying46
  have H : (if l0.length < 17592186044416 then some l0 else none) = some r := h
  clear h
  by_cases c9 : l0.length < 17592186044416
  · rw [if_pos c9] at H
    obtain rfl := Option.some.inj H
    clear H
    cases A0 with
    | none =>
      have h0 : l0 = [] := by
        refine List.eq_nil_of_length_eq_zero (Nat.eq_zero_of_not_pos fun hp => ?_)
        obtain ⟨ad, e, _⟩ := hr0.2.2 hp
        cases e
      subst h0
      go_enter Try.func63, Try.ntmps63
      go_wp2
      go_ret
      exact ⟨_, rfl, Kd.R_nil _ _ _ _ _, Below.refl _ _⟩
    | some ad =>
      have HR0 := Aside0.mk hr0
      have LM := Aside0.mk c9
      clear hr0 c9
      obtain ⟨y1, hy1⟩ : ∃ y_ : List (Int), y_ = [] := ⟨_, rfl⟩
      have Ny1 := Aside0.mk hy1
      clear hy1
      have HB := Aside0.mk (Below.refl w.heap.size w)
      go_enter Try.func63, Try.ntmps63
      go_wp2_with (first | ((with_reducible refine gate_dst (N := 5) rfl ?_); refine Kd.R_lit (Kd.int .i64) _ 3 ?hg (N := 5) ?hd (xs := ([] : List (Int))) (inner := []) (ok := fun _ => True) (okp := fun _ => True) ?hr ?hp (fun _ hk => hk) trivial (Below.refl _ _) (Nat.le_refl _) (by simp) ?_; (case hd => rfl); (case hg => rfl); (case hr => first | (go_simp; done) | (go_simp; rfl)); (case hp => exact (Reps.none _ _)); intro v127 w10 ho11 hb hg_ hnew_; clear hg_ hnew_; (rw [← Ny1.out] at ho11); have n0_ := Aside0.mk (Kd.R_lower ho11 (below_size (by repeat (first | (with_reducible first | exact HB.out | apply below_alloc | apply pw_below_drewN | apply below_drew1) | exact HB.out)))); have n1_ := Aside0.mk (below_step (by repeat (first | (with_reducible first | exact HB.out | apply below_alloc | apply pw_below_drewN | apply below_drew1) | exact HB.out)) hb); clear HB; have HO128 := n0_; have HB := n1_; clear n0_ n1_; clear hb ho11) | ((with_reducible refine gate_builtin (b := .append) (xs := #[.tmp 5, .tmp 6]) rfl ?_); at_builtin; refine Kd.R_append_rows (Kd.int .i64) (w0 := w) w.heap.size rfl (.tmp 5) (.tmp 6) 46 3 (.int .i64 0) 8 rfl Try.underlying46 slices_Clone_int_int.info rfl (by decide) (by omega) v127 y1 l0 _ _ _ (fun _ => True) (fun _ => False) rfl rfl ?aO ?aR (fun _ _ h => h) (fun _ h => h.elim) ?aF ?aB ?aS ?aL ?_; (case aR => repeat (first | exact (Kd.C_below HR0.out HB.out) | (with_reducible refine Kd.C_alloc ?_ _) | (with_reducible refine Kd.C_drewN ?_ _) | (with_reducible refine Kd.C_drew ?_))); (case aB => exact (by repeat (first | (with_reducible first | exact HB.out | apply below_alloc | apply pw_below_drewN | apply below_drew1) | exact HB.out))); (case aF => exact (fun _ _ => trivial)); (case aO => exact (by (with_reducible repeat (first | apply Kd.R_alloc | apply Kd.R_drewN | apply Kd.R_drew)); exact HO128.out)); (case aS => exact (below_size (by repeat (first | (with_reducible first | exact HB.out | apply below_alloc | apply pw_below_drewN | apply below_drew1) | exact HB.out)))); (case aL => have := LM.out; have e1_ : y1.length = 0 := (by rw [Ny1.out]; rfl); omega); intro v134 w13 ho hb hg hat; rw [Ny1.out, List.nil_append] at ho; have n0_ := Aside0.mk (hb); have n1_ := Aside0.mk (ho); clear HB; clear HO128; have HB := n0_; have HO135 := n1_; clear n0_ n1_; clear ho hb hg hat))
      go_ret
      exact ⟨_, rfl, by (with_reducible repeat (first | apply Kd.R_alloc | apply Kd.R_drewN | apply Kd.R_drew)); exact HO135.out, by repeat (first | (with_reducible first | exact HB.out | apply below_alloc | apply pw_below_drewN | apply below_drew1) | exact HB.out)⟩
  · rw [if_neg c9] at H
    exact absurd H (by simp)

/-! ### impl_clones: function 53 -/
def impl_clones.l0 : Nat → List (List Int) → List (List Int) → Int → Int → Option ((List (List Int)))
  | 0, _, _, _, _ => none
  | k + 1, x3, x6, x7, x8 => if x8 < x7 then (if 0 ≤ x8 then (if x8 < (x6.length : Int) then ((slices_Clone_int_int.f (rd_L1 x6 x8)).bind fun t215 => (if x3.length < 5864062014805 then (impl_clones.l0 k (x3 ++ [t215]) x6 x7 (wrap64 (x8 + 1))) else (none))) else (none)) else (none)) else (some x3)
def impl_clones.f (k : Nat) (l0 : List (List Int)) : Option ((List (List Int))) := impl_clones.l0 k ([] : List (List Int)) l0 (l0.length : Int) 0
theorem impl_clones.mono_l : ∀ k, (∀ y0 y1 y2 y3, LeO (impl_clones.l0 k y0 y1 y2 y3) (impl_clones.l0 (k + 1) y0 y1 y2 y3))
  | 0 => fun _ _ _ _ r h => by simp [impl_clones.l0] at h
  | k + 1 => by
    have ih0 := impl_clones.mono_l k
    · intro y0 y1 y2 y3
      unfold impl_clones.l0
      repeat' first
      | (with_reducible exact ih0 _ _ _ _)
      | (with_reducible exact LeO.refl _)
      | (with_reducible exact LeO.none _)
      | (with_reducible refine LeO.ite ?_ ?_)
      | (with_reducible refine LeO.bind ?_ (fun _ => ?_))
      | exact ih0 _ _ _ _
      | exact LeO.none _
      | refine LeO.ite ?_ ?_
      | refine LeO.bind ?_ (fun _ => ?_)
theorem impl_clones.mono : ∀ a0 k, LeO (impl_clones.f k a0) (impl_clones.f (k + 1) a0) := by
  intro a0 k
  have ih0 := impl_clones.mono_l k
  unfold impl_clones.f
  repeat' first
      | (with_reducible exact ih0 _ _ _ _)
      | (with_reducible exact LeO.refl _)
      | (with_reducible exact LeO.none _)
      | (with_reducible refine LeO.ite ?_ ?_)
      | (with_reducible refine LeO.bind ?_ (fun _ => ?_))
      | exact ih0 _ _ _ _
      | exact LeO.none _
      | refine LeO.ite ?_ ?_
      | refine LeO.bind ?_ (fun _ => ?_)
set_option maxHeartbeats 8000000 in
set_option maxRecDepth 100000 in
theorem impl_clones.calls (k : Nat) (A0 : Option Addr) (c0 : Nat) (l0 : List (List Int)) (r : List (List Int)) (w : World) (hr0 : Kd.C (Kd.slice 3 (Kd.int .i64)) w A0 l0.length l0) (hc0 : l0.length ≤ c0) (h : impl_clones.f k l0 = some r) :
    Calls Try.prog 53 #[.slice A0 l0.length c0] w fun e w' => ∃ v0_ : Value, e = .returned (v0_) ∧ Kd.S (Kd.slice 3 (Kd.int .i64)) 46 w' w.heap.size (fun _ => True) v0_ r ∧ Below w.heap.size w w' := by
  have HR0 := Aside0.mk hr0
  have HC0 := Aside0.mk hc0
  clear hr0 hc0
  have HB := Aside0.mk (Below.refl w.heap.size w)
  have H : (impl_clones.l0 k ([] : List (List Int)) l0 (l0.length : Int) 0) = some r := h
  clear h
  have H' := Aside0.mk H
  clear H
  go_enter Try.func53, Try.ntmps53
  go_wp2
  go_loopg [3, 8] k (fun kq v3 v8 w' => ∃ (x3_1 : List (List Int)) (x8_1 : Int), v8 = .int .i64 x8_1 ∧ Aside0 (impl_clones.l0 kq x3_1 l0 (l0.length : Int) x8_1 = some r) ∧ Aside0 (kq ≤ k) ∧ Aside0 (Kd.S (Kd.slice 3 (Kd.int .i64)) 46 w' w.heap.size (fun _ => True) v3 x3_1) ∧ Aside0 (Below w.heap.size w w'))
  case atStart => exact ⟨(([] : List (List Int))), (0), (by first | rfl | (simp; done) | (simp [*]; done)), H', ⟨Nat.le_refl _⟩, ⟨by first | exact Kd.S_nil _ _ _ _ _ | exact Kd.N_nil _ _ _ _ _ | exact Kd.V_nil _ _ _ _ _ | exact Kd.Q_nil _ _ _ _ _ | exact Kd.R_nil _ _ _ _ _⟩, ⟨by repeat (first | (with_reducible first | exact HB.out | apply below_alloc | apply pw_below_drewN | apply below_drew1) | exact HB.out)⟩⟩
  case round =>
    clear H'
    obtain ⟨x3_1, x8_1, rfl, HA, HK1, HO_3, HB⟩ := hrel
    cases gk with
    | zero => exact absurd HA.out (by simp [impl_clones.l0])
    | succ k1 =>
      have H := HA.out
      clear HA
      simp only [impl_clones.l0] at H
      by_cases c2 : x8_1 < (l0.length : Int)
      · rw [if_pos c2] at H
        have c2b0 : decide (x8_1 < (l0.length : Int)) = true := decide_eq_true c2
        clear c2
        by_cases c3 : 0 ≤ x8_1
        · rw [if_pos c3] at H
          have c3b0 : decide (0 ≤ x8_1) = true := decide_eq_true c3
          clear c3
          by_cases c4 : x8_1 < (l0.length : Int)
          · rw [if_pos c4] at H
            have c4b0 : decide (x8_1 < (l0.length : Int)) = true := decide_eq_true c4
            clear c4
            replace H := Option.bind_eq_some_iff.mp H
            obtain ⟨t215, A50, H⟩ := H
            replace H : (if x3_1.length < 5864062014805 then (impl_clones.l0 k1 (x3_1 ++ [t215]) l0 (l0.length : Int) (wrap64 (x8_1 + 1))) else (none)) = some r := H
            have A5 := Aside0.mk A50
            clear A50
            by_cases c6 : x3_1.length < 5864062014805
            · rw [if_pos c6] at H
              have LMc6 := Aside0.mk c6
              clear c6
              obtain ⟨y218, hy218⟩ : ∃ y_ : List (List Int), y_ = (x3_1 ++ [t215]) := ⟨_, rfl⟩
              replace H : (impl_clones.l0 k1 y218 l0 (l0.length : Int) (wrap64 (x8_1 + 1))) = some r := by first | (rw [hy218]; with_reducible exact H) | (have H2_ := (Option.bind_some _ _).symm.trans H; rw [hy218]; with_reducible exact H2_) | (have H2_ := (Option.bind_some _ _).symm.trans H; with_reducible exact H2_) | with_reducible exact H | (rw [hy218]; exact H) | exact H
              have Ny218 := Aside0.mk hy218
              clear hy218
              have H' := Aside0.mk H
              clear H
              have p214 : 0 ≤ (x8_1 : Int) := of_decide_eq_true (by first | (with_reducible assumption) | assumption)
              have q214 : x8_1 < (l0.length : Int) := of_decide_eq_true (by first | (with_reducible assumption) | assumption)
              obtain ⟨ad214, A214_0, c214_0, e214, hx214_0, hl214_0, hi214_0⟩ := at_L1 HR0.out x8_1 p214 q214
              cases e214
              replace hx214_0 := (HB.out.cell (World.block_lt_of_cell? w _ hx214_0)).trans hx214_0
              have HR214_0 := Aside0.mk hi214_0
              have HC214_0 := Aside0.mk hl214_0
              clear hi214_0 hl214_0
              replace p214 := eq_true p214
              replace q214 := eq_true q214
              go_wp2_with (first | ((with_reducible refine gate_callee (f := 63) rfl ?_); refine goesL_ (some 14) rfl rfl Try.func63 (by kernel_rfl) rfl #[.slice A214_0 (rd_L1 l0 x8_1).length c214_0] rfl (by (try simp only [List.map_toArray, List.map_cons, List.map_nil]); first | done | rfl | (simp only [List.length_drop, List.length_take]; rfl)) ?_; (with_reducible refine (slices_Clone_int_int.calls _ _ (rd_L1 l0 x8_1) t215 _ ?side1 ?side2 A5.out).mono ?_); (case side1 => repeat (first | exact (Kd.C_below HR214_0.out HB.out) | (with_reducible refine Kd.C_alloc ?_ _) | (with_reducible refine Kd.C_drewN ?_ _) | (with_reducible refine Kd.C_drew ?_))); (case side2 => exact HC214_0.out); rintro e w7 ⟨v216, rfl, ho0, hb⟩; refine ⟨_, rfl, ?_⟩; have n0_ := Aside0.mk (Kd.S_elder' (by (with_reducible repeat (first | apply Kd.S_alloc | apply Kd.S_drewN | apply Kd.S_drew)); exact HO_3.out) (Kd.R_base ho0) hb); have n1_ := Aside0.mk (Kd.R_lower ho0 (below_size (by repeat (first | (with_reducible first | exact HB.out | apply below_alloc | apply pw_below_drewN | apply below_drew1) | exact HB.out)))); have n2_ := Aside0.mk (below_step (by repeat (first | (with_reducible first | exact HB.out | apply below_alloc | apply pw_below_drewN | apply below_drew1) | exact HB.out)) hb); clear HO_3; clear HB; have HO_3 := n0_; have HO217 := n1_; have HB := n2_; clear n0_ n1_ n2_; (try clear hb); (try clear hb2); (try clear hk); (try clear hi); (try clear ho0); obtain ⟨Ao9, co9, eo9⟩ := Kd.R_slice HO217.out; subst eo9) | ((with_reducible refine gate_builtin (b := .append) (xs := #[.tmp 12, .tmp 15]) rfl ?_); at_builtin; refine Kd.S_append (Kd.slice 3 (Kd.int .i64)) (w0 := w) w.heap.size rfl (.tmp 12) (.tmp 15) 22 46 (.slice none 0 0) 24 rfl Try.underlying22 info46 rfl (by decide) (by omega) u3 x3_1 t215 [.slice Ao9 t215.length co9] (fun _ => True) (fun k_ => some k_ = (.slice Ao9 t215.length co9 : Value).ownBlock) rfl rfl ?aP (fun k_ hk_ => ((Kd.R_mono (ok' := fun k_ => ((fun _ => True)) k_ ∧ some k_ ≠ (u3 : Value).ownBlock) (Kd.R_apart' (HO217.out) (Kd.S_typed HO_3.out) (by decide)) (fun k_ hk => ⟨trivial, hk.2⟩))).1 k_ hk_.symm) ?aF ?aO ?aB ?aS ?aL ?_; (case aP => exact Kd.M_row (Kd.R_mono (Kd.R_tight rfl (Kd.R_mono (ok' := fun k_ => ((fun _ => True)) k_ ∧ some k_ ≠ (u3 : Value).ownBlock) (Kd.R_apart' (HO217.out) (Kd.S_typed HO_3.out) (by decide)) (fun k_ hk => ⟨trivial, hk.2⟩))) (fun _ h_ => h_))); (case aB => exact (by repeat (first | (with_reducible first | exact HB.out | apply below_alloc | apply pw_below_drewN | apply below_drew1) | exact HB.out))); (case aF => exact (fun _ _ => trivial)); (case aO => exact (by (with_reducible repeat (first | apply Kd.S_alloc | apply Kd.S_drewN | apply Kd.S_drew)); exact Kd.S_mono HO_3.out (fun k_ hk => ⟨trivial, fun e_ => hk.2 e_⟩))); (case aS => exact (below_size (by repeat (first | (with_reducible first | exact HB.out | apply below_alloc | apply pw_below_drewN | apply below_drew1) | exact HB.out)))); (case aL => have := LMc6.out; omega); intro v219 w8 ho hb hg hat; rw [← Ny218.out] at ho; have n0_ := Aside0.mk (hb); have n1_ := Aside0.mk (ho); clear HB; clear HO_3; clear HO217; have HB := n0_; have HO220 := n1_; clear n0_ n1_; clear ho hb hg hat))
              go_roundg k1
              case measure => have := HK1.out; omega
              case rel => exact ⟨(y218), (wrap64 (x8_1 + 1)), (by first | rfl | (simp; done) | (simp [*]; done)), H', ⟨by have := HK1.out; omega⟩, ⟨by (with_reducible repeat (first | apply Kd.S_alloc | apply Kd.S_drewN | apply Kd.S_drew)); exact HO220.out⟩, ⟨by repeat (first | (with_reducible first | exact HB.out | apply below_alloc | apply pw_below_drewN | apply below_drew1) | exact HB.out)⟩⟩
            · rw [if_neg c6] at H
              exact absurd H (by simp)
          · rw [if_neg c4] at H
            exact absurd H (by simp)
        · rw [if_neg c3] at H
          exact absurd H (by simp)
      · rw [if_neg c2] at H
        have c2b0 : decide (x8_1 < (l0.length : Int)) = false := decide_eq_false c2
        clear c2
        obtain rfl := Option.some.inj H
        go_wp2
        go_ret
        exact ⟨_, by first | rfl | (simp [errW_none, errW_some] <;> rfl) | (simp [*, errW_none, errW_some] <;> rfl), by (with_reducible repeat (first | apply Kd.S_alloc | apply Kd.S_drewN | apply Kd.S_drew)); exact HO_3.out, by repeat (first | (with_reducible first | exact HB.out | apply below_alloc | apply pw_below_drewN | apply below_drew1) | exact HB.out)⟩

/-! ### impl_zeros: function 54 -/
def impl_zeros.l0 : Nat → Int → List (List Int) → Int → Int → Option ((List (List Int)))
  | 0, _, _, _, _ => none
  | k + 1, x1, x5, x6, x7 => if x7 < x6 then (if 0 ≤ x1 then (if (x1 : Int).toNat ≤ 35184372088832 then (if x5.length < 5864062014805 then (impl_zeros.l0 k x1 (x5 ++ [(List.replicate (x1 : Int).toNat 0)]) x6 (wrap64 (x7 + 1))) else (none)) else (none)) else (none)) else (some x5)
def impl_zeros.f (k : Nat) (a0 : Int) (a1 : Int) : Option ((List (List Int))) := impl_zeros.l0 k a1 ([] : List (List Int)) a0 0
theorem impl_zeros.mono_l : ∀ k, (∀ y0 y1 y2 y3, LeO (impl_zeros.l0 k y0 y1 y2 y3) (impl_zeros.l0 (k + 1) y0 y1 y2 y3))
  | 0 => fun _ _ _ _ r h => by simp [impl_zeros.l0] at h
  | k + 1 => by
    have ih0 := impl_zeros.mono_l k
    · intro y0 y1 y2 y3
      unfold impl_zeros.l0
      repeat' first
      | (with_reducible exact ih0 _ _ _ _)
      | (with_reducible exact LeO.refl _)
      | (with_reducible exact LeO.none _)
      | (with_reducible refine LeO.ite ?_ ?_)
      | (with_reducible refine LeO.bind ?_ (fun _ => ?_))
      | exact ih0 _ _ _ _
      | exact LeO.none _
      | refine LeO.ite ?_ ?_
      | refine LeO.bind ?_ (fun _ => ?_)
theorem impl_zeros.mono : ∀ a0 a1 k, LeO (impl_zeros.f k a0 a1) (impl_zeros.f (k + 1) a0 a1) := by
  intro a0 a1 k
  have ih0 := impl_zeros.mono_l k
  unfold impl_zeros.f
  repeat' first
      | (with_reducible exact ih0 _ _ _ _)
      | (with_reducible exact LeO.refl _)
      | (with_reducible exact LeO.none _)
      | (with_reducible refine LeO.ite ?_ ?_)
      | (with_reducible refine LeO.bind ?_ (fun _ => ?_))
      | exact ih0 _ _ _ _
      | exact LeO.none _
      | refine LeO.ite ?_ ?_
      | refine LeO.bind ?_ (fun _ => ?_)
set_option maxHeartbeats 8000000 in
set_option maxRecDepth 100000 in
theorem impl_zeros.calls (k : Nat) (a0 : Int) (a1 : Int) (r : List (List Int)) (w : World) (h : impl_zeros.f k a0 a1 = some r) :
    Calls Try.prog 54 #[.int .i64 a0, .int .i64 a1] w fun e w' => ∃ v0_ : Value, e = .returned (v0_) ∧ Kd.S (Kd.slice 3 (Kd.int .i64)) 46 w' w.heap.size (fun _ => True) v0_ r ∧ Below w.heap.size w w' := by
  have HB := Aside0.mk (Below.refl w.heap.size w)
  have H : (impl_zeros.l0 k a1 ([] : List (List Int)) a0 0) = some r := h
  clear h
  have H' := Aside0.mk H
  clear H
  go_enter Try.func54, Try.ntmps54
  go_wp2
  go_loopg [5, 7] k (fun kq v5 v7 w' => ∃ (x5_1 : List (List Int)) (x7_1 : Int), v7 = .int .i64 x7_1 ∧ Aside0 (impl_zeros.l0 kq a1 x5_1 a0 x7_1 = some r) ∧ Aside0 (kq ≤ k) ∧ Aside0 (Kd.S (Kd.slice 3 (Kd.int .i64)) 46 w' w.heap.size (fun _ => True) v5 x5_1) ∧ Aside0 (Below w.heap.size w w'))
  case atStart => exact ⟨(([] : List (List Int))), (0), (by first | rfl | (simp; done) | (simp [*]; done)), H', ⟨Nat.le_refl _⟩, ⟨by first | exact Kd.S_nil _ _ _ _ _ | exact Kd.N_nil _ _ _ _ _ | exact Kd.V_nil _ _ _ _ _ | exact Kd.Q_nil _ _ _ _ _ | exact Kd.R_nil _ _ _ _ _⟩, ⟨by repeat (first | (with_reducible first | exact HB.out | apply below_alloc | apply pw_below_drewN | apply below_drew1) | exact HB.out)⟩⟩
  case round =>
    clear H'
    try clear p2
    obtain ⟨x5_1, x7_1, rfl, HA, HK1, HO_5, HB⟩ := hrel
    cases gk with
    | zero => exact absurd HA.out (by simp [impl_zeros.l0])
    | succ k1 =>
      have H := HA.out
      clear HA
      simp only [impl_zeros.l0] at H
      by_cases c3 : x7_1 < a0
      · rw [if_pos c3] at H
        have c3b0 : decide (x7_1 < a0) = true := decide_eq_true c3
        clear c3
        by_cases c4 : 0 ≤ a1
        · rw [if_pos c4] at H
          have c4b0 := eq_true c4
          have c4b1 : decide (0 ≤ a1) = true := decide_eq_true c4
          clear c4
          by_cases c5 : (a1 : Int).toNat ≤ 35184372088832
          · rw [if_pos c5] at H
            have c5b0 := eq_true c5
            have c5b1 : decide ((a1 : Int).toNat ≤ 35184372088832) = true := decide_eq_true c5
            clear c5
            obtain ⟨y221, hy221⟩ : ∃ y_ : List Int, y_ = (List.replicate (a1 : Int).toNat 0) := ⟨_, rfl⟩
            replace H : (if x5_1.length < 5864062014805 then (impl_zeros.l0 k1 a1 (x5_1 ++ [y221]) a0 (wrap64 (x7_1 + 1))) else (none)) = some r := by first | (rw [hy221]; with_reducible exact H) | (have H2_ := (Option.bind_some _ _).symm.trans H; rw [hy221]; with_reducible exact H2_) | (have H2_ := (Option.bind_some _ _).symm.trans H; with_reducible exact H2_) | with_reducible exact H | (rw [hy221]; exact H) | exact H
            have Ny221 := Aside0.mk hy221
            clear hy221
            by_cases c6 : x5_1.length < 5864062014805
            · rw [if_pos c6] at H
              have LMc6 := Aside0.mk c6
              clear c6
              obtain ⟨y224, hy224⟩ : ∃ y_ : List (List Int), y_ = (x5_1 ++ [y221]) := ⟨_, rfl⟩
              replace H : (impl_zeros.l0 k1 a1 y224 a0 (wrap64 (x7_1 + 1))) = some r := by first | (rw [hy224]; with_reducible exact H) | (have H2_ := (Option.bind_some _ _).symm.trans H; rw [hy224]; with_reducible exact H2_) | (have H2_ := (Option.bind_some _ _).symm.trans H; with_reducible exact H2_) | with_reducible exact H | (rw [hy224]; exact H) | exact H
              have Ny224 := Aside0.mk hy224
              clear hy224
              have H' := Aside0.mk H
              clear H
              go_wp2_with (first | ((with_reducible refine gate_dst (N := 11) rfl ?_); refine Kd.R_make (Kd.int .i64) _ 3 rfl (N := 11) rfl 46 _ _ rfl a1 rfl rfl Try.underlying46 (.int .i64 0) 8 info3 rfl (by decide) (by omega) 0 (ok := fun _ => True) (okp := fun _ => True) rfl (fun _ hk => hk) trivial (of_decide_eq_true (by first | (with_reducible assumption) | assumption)) (Nat.le_trans (Nat.mul_le_mul_right _ (of_decide_eq_true (by first | (with_reducible assumption) | assumption) : a1.toNat ≤ 35184372088832)) (by omega)) (Below.refl _ _) (Nat.le_refl _) ?_; intro v222 w7 ho8 hb hg_ hnew_; clear hg_ hnew_; (first | rw [← Ny221.out] at ho8 | (simp only [Int.reduceToNat] at ho8; rw [← Ny221.out] at ho8)); have n0_ := Aside0.mk (Kd.S_elder' (by (with_reducible repeat (first | apply Kd.S_alloc | apply Kd.S_drewN | apply Kd.S_drew)); exact HO_5.out) (Kd.R_base ho8) hb); have n1_ := Aside0.mk (Kd.R_lower ho8 (below_size (by repeat (first | (with_reducible first | exact HB.out | apply below_alloc | apply pw_below_drewN | apply below_drew1) | exact HB.out)))); have n2_ := Aside0.mk (below_step (by repeat (first | (with_reducible first | exact HB.out | apply below_alloc | apply pw_below_drewN | apply below_drew1) | exact HB.out)) hb); clear HO_5; clear HB; have HO_5 := n0_; have HO223 := n1_; have HB := n2_; clear n0_ n1_ n2_; clear hb ho8; obtain ⟨Ao10, co10, eo10⟩ := Kd.R_slice HO223.out; subst eo10) | ((with_reducible refine gate_builtin (b := .append) (xs := #[.tmp 9, .tmp 12]) rfl ?_); at_builtin; refine Kd.S_append (Kd.slice 3 (Kd.int .i64)) (w0 := w) w.heap.size rfl (.tmp 9) (.tmp 12) 22 46 (.slice none 0 0) 24 rfl Try.underlying22 info46 rfl (by decide) (by omega) u5 x5_1 y221 [.slice Ao10 y221.length co10] (fun _ => True) (fun k_ => some k_ = (.slice Ao10 y221.length co10 : Value).ownBlock) rfl rfl ?aP (fun k_ hk_ => ((Kd.R_mono (ok' := fun k_ => ((fun _ => True)) k_ ∧ some k_ ≠ (u5 : Value).ownBlock) (Kd.R_apart' (HO223.out) (Kd.S_typed HO_5.out) (by decide)) (fun k_ hk => ⟨trivial, hk.2⟩))).1 k_ hk_.symm) ?aF ?aO ?aB ?aS ?aL ?_; (case aP => exact Kd.M_row (Kd.R_mono (Kd.R_tight rfl (Kd.R_mono (ok' := fun k_ => ((fun _ => True)) k_ ∧ some k_ ≠ (u5 : Value).ownBlock) (Kd.R_apart' (HO223.out) (Kd.S_typed HO_5.out) (by decide)) (fun k_ hk => ⟨trivial, hk.2⟩))) (fun _ h_ => h_))); (case aB => exact (by repeat (first | (with_reducible first | exact HB.out | apply below_alloc | apply pw_below_drewN | apply below_drew1) | exact HB.out))); (case aF => exact (fun _ _ => trivial)); (case aO => exact (by (with_reducible repeat (first | apply Kd.S_alloc | apply Kd.S_drewN | apply Kd.S_drew)); exact Kd.S_mono HO_5.out (fun k_ hk => ⟨trivial, fun e_ => hk.2 e_⟩))); (case aS => exact (below_size (by repeat (first | (with_reducible first | exact HB.out | apply below_alloc | apply pw_below_drewN | apply below_drew1) | exact HB.out)))); (case aL => have := LMc6.out; omega); intro v225 w9 ho hb hg hat; rw [← Ny224.out] at ho; have n0_ := Aside0.mk (hb); have n1_ := Aside0.mk (ho); clear HB; clear HO_5; clear HO223; have HB := n0_; have HO226 := n1_; clear n0_ n1_; clear ho hb hg hat))
              go_roundg k1
              case measure => have := HK1.out; omega
              case rel => exact ⟨(y224), (wrap64 (x7_1 + 1)), (by first | rfl | (simp; done) | (simp [*]; done)), H', ⟨by have := HK1.out; omega⟩, ⟨by (with_reducible repeat (first | apply Kd.S_alloc | apply Kd.S_drewN | apply Kd.S_drew)); exact HO226.out⟩, ⟨by repeat (first | (with_reducible first | exact HB.out | apply below_alloc | apply pw_below_drewN | apply below_drew1) | exact HB.out)⟩⟩
            · rw [if_neg c6] at H
              exact absurd H (by simp)
          · rw [if_neg c5] at H
            exact absurd H (by simp)
        · rw [if_neg c4] at H
          exact absurd H (by simp)
      · rw [if_neg c3] at H
        have c3b0 : decide (x7_1 < a0) = false := decide_eq_false c3
        clear c3
        obtain rfl := Option.some.inj H
        go_wp2
        go_ret
        exact ⟨_, by first | rfl | (simp [errW_none, errW_some] <;> rfl) | (simp [*, errW_none, errW_some] <;> rfl), by (with_reducible repeat (first | apply Kd.S_alloc | apply Kd.S_drewN | apply Kd.S_drew)); exact HO_5.out, by repeat (first | (with_reducible first | exact HB.out | apply below_alloc | apply pw_below_drewN | apply below_drew1) | exact HB.out)⟩

-- NOT PRINTED: function 69 (slices_IndexFunc_int_int)

-- NOT PRINTED: function 64 (slices_ContainsFunc_int_int)

/-! ### impl_sides: function 55 -/
def fnd {α : Type} (p : α → Bool) : List α → Int → Int
  | [], _ => -1
  | x :: l, i => if p x = true then i else fnd p l (i + 1)
theorem drewN_add (w : World) (m n : Nat) : (w.drewN m).drewN n = w.drewN (m + n) := by
  simp [World.drewN, Nat.add_assoc]
def lnk (a b : Int) (l : List Int) : Bool := (rd l 0 == mn a b) && (rd l 1 == mx a b)
theorem link_pred (a b : Int) (Ba Bb : Nat) (W : World) (A : Option Addr) (c : Nat) (l : List Int) (hr : Kd.C (Kd.int .i64) W A l.length l) (hl : l.length = 2) (hca : W.cell? ⟨Ba, 0, none⟩ = some (.int .i64 a)) (hcb : W.cell? ⟨Bb, 0, none⟩ = some (.int .i64 b)) :
    Calls Try.prog 65 #[.slice A l.length c, .pointer (some ⟨Ba, 0, none⟩), .pointer (some ⟨Bb, 0, none⟩)] W fun e w' => e = .returned (.bool (lnk a b l)) ∧ ∃ n, w' = W.drewN n := by
  obtain ⟨ad, rfl, hx0⟩ := Kd.at_int hr 0 (by omega) (by omega)
  obtain ⟨ad1, e1, hx1⟩ := Kd.at_int hr 1 (by omega) (by omega)
  obtain rfl : ad = ad1 := by injection e1
  clear e1
  rw [hl]
  simp only [Int.toNat_zero, Int.reduceToNat] at hx0 hx1
  have ez : ad.add 0 = ad := by unfold Addr.add; split <;> simp_all
  rw [ez] at hx0
  clear ez
  have e1 : ad.add 1 = ⟨ad.block, ad.off + 1, none⟩ := by simp [Addr.add]
  rw [e1] at hx1
  clear e1
  clear hr hl
  unfold lnk
  by_cases h0 : rd l 0 = mn a b
  · have h0b : (rd l 0 == if b < a then b else a) = true := beq_iff_eq.mpr h0
    have H0 := Aside0.mk h0b
    clear h0
    go_enter Try.func65, Try.ntmps65
    go_wp2
    go_quiet (fail)
    go_wp2
    all_goals go_ret
    all_goals exact ⟨by show Ending.returned (Value.bool _) = Ending.returned (Value.bool ((rd l 0 == if b < a then b else a) && (rd l 1 == if a < b then b else a))); rw [H0.out, Bool.true_and]; rcases Int.lt_or_le a b with hab | hab; (rw [if_pos hab] <;> first | rfl | (exfalso; omega)); (rw [if_neg (by omega)] <;> first | rfl | (exfalso; omega) | ((have e_ : a = b := by omega); subst e_; rfl)), _, rfl⟩
  · have h0b : (rd l 0 == if b < a then b else a) = false := beq_eq_false_iff_ne.mpr h0
    have H0 := Aside0.mk h0b
    clear h0
    go_enter Try.func65, Try.ntmps65
    go_wp2
    go_quiet (fail)
    go_wp2
    all_goals go_ret
    all_goals exact ⟨by show _ = Ending.returned (Value.bool ((rd l 0 == if b < a then b else a) && _)); rw [H0.out]; rfl, _, rfl⟩
set_option maxHeartbeats 8000000 in
set_option maxRecDepth 100000 in
theorem link_find (a b : Int) (Ba Bb : Nat) (w : World) (A : Option Addr) (c : Nat) (l : List (List Int)) (hca : w.cell? ⟨Ba, 0, none⟩ = some (.int .i64 a)) (hcb : w.cell? ⟨Bb, 0, none⟩ = some (.int .i64 b)) (hr : Kd.C (Kd.slice 3 (Kd.int .i64)) w A l.length l) (hc : l.length ≤ c) (hn : l.length ≤ 4611686018427387904) (h2 : ∀ x ∈ l, x.length = 2) :
    Calls Try.prog 69 #[.slice A l.length c, .func (.func 65) #[] #[.pointer (some ⟨Ba, 0, none⟩), .pointer (some ⟨Bb, 0, none⟩)]] w fun e w' => e = .returned (.int .i64 (fnd (lnk a b) l 0)) ∧ ∃ n, w' = w.drewN n := by
  have HR := Aside0.mk hr
  have HA := Aside0.mk hca
  have HBc := Aside0.mk hcb
  have H2 := Aside0.mk h2
  clear hr hca hcb h2
  obtain ⟨R, hR⟩ : ∃ R, fnd (lnk a b) l 0 = R := ⟨_, rfl⟩
  rw [hR]
  have HF := Aside0.mk hR
  clear hR
  go_enter Try.func69, Try.ntmps69
  go_wp2
  go_loopw [8] (fun v wr => ∃ j : Nat, v = .int .i64 j ∧ Aside0 (j ≤ l.length) ∧ Aside0 (fnd (lnk a b) (l.drop j) j = R) ∧ Aside0 (∃ n, wr = w.drewN n)) (fun v _ => l.length - (intOf v).toNat)
  case atStart => exact ⟨0, rfl, ⟨Nat.zero_le _⟩, ⟨HF.out⟩, ⟨0, rfl⟩⟩
  case round =>
    obtain ⟨j, rfl, HJ, HJF, HD⟩ := hrel
    obtain ⟨nd, rfl⟩ := HD.out
    clear HD
    by_cases hlt : j < l.length
    · obtain ⟨ad, A0, c0, rfl, hx0, hl0, hi0⟩ := at_L1 HR.out (j : Int) (by omega) (by omega)
      simp only [Int.toNat_natCast] at hx0
      have hd : l.drop j = rd_L1 l (j : Int) :: l.drop (j + 1) := by
        rw [List.drop_eq_getElem_cons hlt]
        congr 1
        simp [rd_L1, List.getD_eq_getElem?_getD, List.getElem?_eq_getElem hlt]
      have hlen : (rd_L1 l (j : Int)).length = 2 := by
        refine H2.out _ ?_
        rw [show rd_L1 l (j : Int) = l[j] by simp [rd_L1, List.getD_eq_getElem?_getD, List.getElem?_eq_getElem hlt]]
        exact List.getElem_mem _
      have hJ2 := HJF.out
      rw [hd] at hJ2
      unfold fnd at hJ2
      have HL := Aside0.mk hlen
      have HL0 := Aside0.mk hl0
      have HI0 := Aside0.mk hi0
      clear hd HJF HJ hlen hl0 hi0
      replace hx0 : (w.drewN nd).cell? (ad.add j) = some (.slice A0 (rd_L1 l (j : Int)).length c0) := hx0
      by_cases hp : lnk a b (rd_L1 l (j : Int)) = true
      · rw [if_pos hp] at hJ2
        have HP := Aside0.mk hp
        have HJ2 := Aside0.mk hJ2
        clear hp hJ2
        go_wp2_with fail
        refine (link_pred a b Ba Bb (w.drewN nd) A0 c0 (rd_L1 l (j : Int)) HI0.out HL.out HA.out HBc.out).mono ?_
        rintro e w2 ⟨rfl, hd2⟩
        have HD2 := Aside0.mk hd2
        clear hd2 hx0
        have hp := HP.out
        go_wp2
        go_ret
        exact ⟨(by show Ending.returned (Value.int .i64 (j : Int)) = _; rw [HJ2.out]), by obtain ⟨n2, h2⟩ := HD2.out; exact ⟨nd + n2, by rw [h2, drewN_add]⟩⟩
      · rw [if_neg hp] at hJ2
        have HP := Aside0.mk (Bool.eq_false_iff.mpr hp)
        have HJ2 := Aside0.mk hJ2
        clear hp hJ2
        go_wp2_with fail
        refine (link_pred a b Ba Bb (w.drewN nd) A0 c0 (rd_L1 l (j : Int)) HI0.out HL.out HA.out HBc.out).mono ?_
        rintro e w2 ⟨rfl, hd2⟩
        have HD2 := Aside0.mk hd2
        clear hd2 hx0
        have hp := HP.out
        go_wp2
        go_roundw
        case rel => exact ⟨j + 1, by go_num, ⟨by omega⟩, ⟨by rw [← HJ2.out]; rfl⟩, ⟨by obtain ⟨n2, h2⟩ := HD2.out; exact ⟨nd + n2, by rw [h2, drewN_add]⟩⟩⟩
        case measure => simp [intOf]; omega
    · have hj := HJ.out
      have e : j = l.length := by omega
      have hJ2 := HJF.out
      rw [e, List.drop_length] at hJ2
      have HJ2 := Aside0.mk hJ2
      clear hJ2 HJF hj
      clear e
      go_wp2
      go_ret
      exact ⟨by rw [← HJ2.out]; rfl, nd, rfl⟩
theorem fnd_any {α : Type} (p : α → Bool) : ∀ (l : List α) (i : Int), 0 ≤ i → decide (fnd p l i ≥ 0) = l.any p
  | [], i, _ => rfl
  | x :: l, i, h => by
    unfold fnd
    rw [List.any_cons]
    by_cases hp : p x = true
    · rw [if_pos hp, hp]
      simpa using h
    · rw [if_neg hp, Bool.eq_false_iff.mpr hp, Bool.false_or]
      exact fnd_any p l (i + 1) (by omega)
theorem link_any (a b : Int) (Ba Bb : Nat) (w : World) (A : Option Addr) (c : Nat) (l : List (List Int)) (hca : w.cell? ⟨Ba, 0, none⟩ = some (.int .i64 a)) (hcb : w.cell? ⟨Bb, 0, none⟩ = some (.int .i64 b)) (hr : Kd.C (Kd.slice 3 (Kd.int .i64)) w A l.length l) (hc : l.length ≤ c) (hn : l.length ≤ 4611686018427387904) (h2 : ∀ x ∈ l, x.length = 2) :
    Calls Try.prog 64 #[.slice A l.length c, .func (.func 65) #[] #[.pointer (some ⟨Ba, 0, none⟩), .pointer (some ⟨Bb, 0, none⟩)]] w fun e w' => e = .returned (.bool (l.any (lnk a b))) ∧ ∃ n, w' = w.drewN n := by
  have hcon := link_find a b Ba Bb w A c l hca hcb hr hc hn h2
  rw [← fnd_any (lnk a b) l 0 (by omega)]
  clear hr hca hcb h2
  generalize fnd (lnk a b) l 0 = R at hcon ⊢
  go_enter Try.func64, Try.ntmps64
  go_wp2_with (go_at_call 69; refine hcon.mono ?_; rintro e w' ⟨rfl, nd, rfl⟩)
  go_ret
  exact ⟨rfl, nd, rfl⟩
/-- A row of sides: the neighbours from b on; and all rows from a on. -/
def sIn (ls : List (List Int)) (a : Int) : Nat → Nat → List S69
  | _, 0 => []
  | b, d + 1 => (if ls.any (lnk a (b : Int)) = true then [(⟨a, (b : Int)⟩ : S69)] else []) ++ sIn ls a (b + 1) d
def sOut (ls : List (List Int)) (n : Nat) : Nat → Nat → List S69
  | _, 0 => []
  | a, d + 1 => sIn ls (a : Int) 0 n ++ sOut ls n (a + 1) d
def impl_sides.f (a0 : Int) (l1 : List (List Int)) : Option (List S69) := if 0 ≤ a0 ∧ a0 ≤ 64 then (if l1.length ≤ 4611686018427387904 then (if (l1.all fun x => x.length == 2) = true then some (sOut l1 a0.toNat 0 a0.toNat) else none) else none) else none
theorem impl_sides.info : (Try.prog.info? 69).map (fun i => (i.zero, i.size, i.bytes)) = some (some (.agg #[(.int .i64 0), (.int .i64 0)]), 2, 16) := by kernel_rfl
set_option maxHeartbeats 8000000 in
set_option maxRecDepth 100000 in
theorem impl_sides.calls (a0 : Int) (A1 : Option Addr) (c1 : Nat) (l1 : List (List Int)) (r : List S69) (w : World) (hr1 : Kd.C (Kd.slice 3 (Kd.int .i64)) w A1 l1.length l1) (hc1 : l1.length ≤ c1) (h : impl_sides.f a0 l1 = some r) :
    Calls Try.prog 55 #[.int .i64 a0, .slice A1 l1.length c1] w fun e w' => ∃ v0_ : Value, e = .returned (v0_) ∧ Kd.R k69 69 w' w.heap.size (fun _ => True) v0_ r ∧ Below w.heap.size w w' := by
  unfold impl_sides.f at h
  by_cases h1 : 0 ≤ a0 ∧ a0 ≤ 64
  · by_cases h2 : l1.length ≤ 4611686018427387904
    · by_cases h3 : (l1.all fun x => x.length == 2) = true
      · rw [if_pos h1, if_pos h2, if_pos h3] at h
        obtain rfl := Option.some.inj h
        clear h
        have H3 := Aside0.mk (show ∀ x ∈ l1, x.length = 2 from fun x hx => by simpa using List.all_eq_true.1 h3 x hx)
        clear h3
        obtain ⟨n, rfl⟩ := Int.eq_ofNat_of_zero_le h1.1
        have hn : n ≤ 64 := by omega
        clear h1
        rw [Int.toNat_natCast]
        have HR := Aside0.mk hr1
        clear hr1
        obtain ⟨R, hR⟩ : ∃ R, sOut l1 n 0 n = R := ⟨_, rfl⟩
        rw [hR]
        have HF := Aside0.mk hR
        clear hR
        go_enter Try.func55, Try.ntmps55
        go_wp2
        go_loopw [5, 9] (fun v5 v9 wr => ∃ (a : Nat) (out : List S69), v9 = .int .i64 a ∧ Aside0 (a ≤ n) ∧ Aside0 (out ++ sOut l1 n a (n - a) = R) ∧ Aside0 (out.length ≤ a * 64) ∧ Aside0 (Kd.R k69 69 wr w.heap.size (fun _ => True) v5 out) ∧ Aside0 (Below w.heap.size w wr)) (fun _ v _ => n - (intOf v).toNat)
        case atStart => exact ⟨0, [], rfl, ⟨Nat.zero_le _⟩, ⟨HF.out⟩, ⟨Nat.le_refl _⟩, ⟨Kd.R_nil _ _ _ _ _⟩, ⟨Below.refl _ _⟩⟩
        case round =>
          obtain ⟨a, out, rfl, HJ, HJF, HL, HO, HB⟩ := hrel
          by_cases hlt : a < n
          · have hgb : n - a = (n - (a + 1)) + 1 := by omega
            have hJ2 := HJF.out
            rw [hgb] at hJ2
            simp only [sOut] at hJ2
            have HF2 := Aside0.mk hJ2
            clear hJ2 hgb HJF HJ
            obtain ⟨S2, hS2⟩ : ∃ S2, sOut l1 n (a + 1) (n - (a + 1)) = S2 := ⟨_, rfl⟩
            have HF3 := Aside0.mk (show out ++ (sIn l1 (a : Int) 0 n ++ S2) = R by rw [← hS2]; exact HF2.out)
            have HS2 := Aside0.mk hS2
            clear HF2 hS2
            have HBA := Aside0.mk (show (wr.alloc (.cells #[.int .i64 (a : Int)] 3)).heap[wr.heap.size]? = some (.cells #[.int .i64 (a : Int)] 3 (0, 0)) by simpa using heap_alloc_new wr _)
            obtain ⟨Ba, hBa⟩ : ∃ Ba, Ba = wr.heap.size := ⟨_, rfl⟩
            go_wp2
            rename World => wo
            go_loopw [5, 13] (fun v5 v13 wx => ∃ (b : Nat) (ou : List S69), v13 = .int .i64 b ∧ Aside0 (b ≤ n) ∧ Aside0 (ou ++ (sIn l1 (a : Int) b (n - b) ++ S2) = R) ∧ Aside0 (ou.length ≤ a * 64 + b) ∧ Aside0 (Kd.R k69 69 wx w.heap.size (fun _ => True) v5 ou) ∧ Aside0 (Below w.heap.size w wx) ∧ Aside0 (wx.heap[wo.heap.size]? = some (.cells #[.int .i64 (a : Int)] 3 (0, 0)))) (fun _ v _ => n - (intOf v).toNat)
            case atStart => exact ⟨0, out, rfl, ⟨Nat.zero_le _⟩, ⟨HF3.out⟩, ⟨by have := HL.out; omega⟩, ⟨Kd.R_alloc HO.out _⟩, ⟨below_alloc HB.out _⟩, HBA⟩
            case round =>
              obtain ⟨b, ou, rfl, HJb, HFb, HLb, HOb, HBb, HBAb⟩ := hrel
              by_cases hlb : b < n
              · have hgb : n - b = (n - (b + 1)) + 1 := by omega
                have hJ2 := HFb.out
                rw [hgb] at hJ2
                simp only [sIn] at hJ2
                have HF4 := Aside0.mk hJ2
                clear hJ2 hgb HFb HJb
                have hLa := blk_lt HBAb.out
                have HBBb := Aside0.mk (show (wr.alloc (.cells #[.int .i64 (b : Int)] 3)).heap[wr.heap.size]? = some (.cells #[.int .i64 (b : Int)] 3 (0, 0)) by simpa using heap_alloc_new wr _)
                have HBA2 := Aside0.mk (blk_alloc HBAb.out (.cells #[.int .i64 (b : Int)] 3))
                have hcon := link_any (a : Int) (b : Int) wo.heap.size wr.heap.size (wr.alloc (.cells #[.int .i64 (b : Int)] 3)) A1 c1 l1 ((blk_cell HBA2.out 0).trans rfl) ((blk_cell HBBb.out 0).trans rfl) (Kd.C_alloc (Kd.C_below HR.out HBb.out) _) hc1 h2 H3.out
                have HCon := Aside0.mk hcon
                clear hcon
                by_cases hq : l1.any (lnk (a : Int) (b : Int)) = true
                · rw [if_pos hq] at HF4
                  have HQ := Aside0.mk hq
                  clear hq
                  go_wp2_with fail
                  refine HCon.out.mono ?_
                  rintro e w2 ⟨rfl, hd⟩
                  have HB2 := Aside0.mk (show Below (wr.alloc (.cells #[.int .i64 (b : Int)] 3)).heap.size (wr.alloc (.cells #[.int .i64 (b : Int)] 3)) w2 by obtain ⟨nq, rfl⟩ := hd; exact pw_below_drewN (Below.refl _ _) nq)
                  clear hd
                  have HA2 := Aside0.mk (blk_below HBA2.out HB2.out)
                  have HBc2 := Aside0.mk (blk_below HBBb.out HB2.out)
                  have HO2 := Aside0.mk (Kd.R_below (Kd.R_alloc HOb.out (.cells #[.int .i64 (b : Int)] 3)) HB2.out)
                  have HBw := Aside0.mk (below_step (below_alloc HBb.out (.cells #[.int .i64 (b : Int)] 3)) HB2.out)
                  have hcA : w2.cell? ⟨wo.heap.size, 0, none⟩ = some (.int .i64 (a : Int)) := (blk_cell HA2.out 0).trans rfl
                  have hcB : w2.cell? ⟨wr.heap.size, 0, none⟩ = some (.int .i64 (b : Int)) := (blk_cell HBc2.out 0).trans rfl
                  have hq := HQ.out
                  obtain ⟨y1, hy1⟩ : ∃ y, y = ou ++ [(⟨(a : Int), (b : Int)⟩ : S69)] := ⟨_, rfl⟩
                  have NY := Aside0.mk hy1
                  clear hy1
                  go_wp2_with (((with_reducible refine gate_builtin (b := .append) (xs := #[.tmp 19, .tmp 23]) rfl ?_); at_builtin; refine Kd.R_append k69 (w0 := w) w.heap.size rfl (.tmp 19) (.tmp 23) 65 69 (.agg #[(.int .i64 0), (.int .i64 0)]) 16 rfl Try.underlying65 impl_sides.info rfl (by decide) (by omega) _ ou (⟨(a : Int), (b : Int)⟩ : S69) [.int .i64 (a : Int), .int .i64 (b : Int)] (fun _ => True) (fun _ => False) rfl rfl ?aP (fun _ hk => hk.elim) ?aF ?aO ?aB ?aS ?aL ?_; (case aP => exact k69_mkM _ _ _ (⟨(a : Int), (b : Int)⟩ : S69)); (case aB => exact (by repeat (first | (with_reducible first | exact HBw.out | apply below_alloc | apply pw_below_drewN | apply below_drew1) | exact HBw.out))); (case aF => exact (fun _ _ => trivial)); (case aO => exact (by (with_reducible repeat (first | apply Kd.R_alloc | apply Kd.R_drewN | apply Kd.R_drew)); exact HO2.out)); (case aS => exact (below_size (by repeat (first | (with_reducible first | exact HBw.out | apply below_alloc | apply pw_below_drewN | apply below_drew1) | exact HBw.out)))); (case aL => have := HLb.out; omega); intro v3 w3 ho hb hg hat; rw [← NY.out] at ho; have n0_ := Aside0.mk ho; have n1_ := Aside0.mk hb; have n2_ := Aside0.mk (blk_grown (g := wo.heap.size) (o := .cells #[.int .i64 (a : Int)] 3 (0, 0)) (by (with_reducible repeat (first | refine blk_drewN ?_ _ | refine blk_drew ?_ | refine blk_alloc ?_ _)); exact HA2.out) hg (Kd.R_ne HO2.out HA2.out (by decide))); clear ho hb hg hat))
                  go_roundw
                  case rel => exact ⟨b + 1, y1, by go_num, ⟨by omega⟩, ⟨by rw [NY.out, ← HF4.out]; simp⟩, ⟨by have := HLb.out; rw [NY.out, List.length_append, List.length_singleton]; omega⟩, n0_, n1_, n2_⟩
                  case measure => simp [intOf]; omega
                · rw [if_neg hq, List.nil_append] at HF4
                  have HQ := Aside0.mk (Bool.eq_false_iff.mpr hq)
                  clear hq
                  go_wp2_with fail
                  refine HCon.out.mono ?_
                  rintro e w2 ⟨rfl, hd⟩
                  have HB2 := Aside0.mk (show Below (wr.alloc (.cells #[.int .i64 (b : Int)] 3)).heap.size (wr.alloc (.cells #[.int .i64 (b : Int)] 3)) w2 by obtain ⟨nq, rfl⟩ := hd; exact pw_below_drewN (Below.refl _ _) nq)
                  clear hd
                  have HA2 := Aside0.mk (blk_below HBA2.out HB2.out)
                  have HO2 := Aside0.mk (Kd.R_below (Kd.R_alloc HOb.out (.cells #[.int .i64 (b : Int)] 3)) HB2.out)
                  have HBw := Aside0.mk (below_step (below_alloc HBb.out (.cells #[.int .i64 (b : Int)] 3)) HB2.out)
                  have hq := HQ.out
                  go_wp2
                  go_roundw
                  case rel => exact ⟨b + 1, ou, by go_num, ⟨by omega⟩, ⟨HF4.out⟩, ⟨by have := HLb.out; omega⟩, HO2, HBw, HA2⟩
                  case measure => simp [intOf]; omega
              · have hj := HJb.out
                have e : b = n := by omega
                have hJ2 := HFb.out
                rw [e, Nat.sub_self] at hJ2
                simp only [sIn, List.nil_append] at hJ2
                have HJ2 := Aside0.mk hJ2
                clear hJ2 HFb hj e
                go_wp2
                go_roundw
                case rel => exact ⟨a + 1, ou, by go_num, ⟨by omega⟩, ⟨by rw [HS2.out]; exact HJ2.out⟩, ⟨by have := HLb.out; have := HJb.out; omega⟩, HOb, HBb⟩
                case measure => simp [intOf]; omega
          · have hj := HJ.out
            have e : a = n := by omega
            have hJ2 := HJF.out
            rw [e, Nat.sub_self] at hJ2
            simp only [sOut, List.append_nil] at hJ2
            have HJ2 := Aside0.mk hJ2
            clear hJ2 HJF hj e
            go_wp2
            go_ret
            exact ⟨_, rfl, by rw [← HJ2.out]; exact HO.out, HB.out⟩
      · rw [if_pos h1, if_pos h2, if_neg h3] at h
        cases h
    · rw [if_pos h1, if_neg h2] at h
      cases h
  · rw [if_neg h1] at h
    cases h

/-! ### impl_newFlood: function 29 -/
def impl_newFlood.f (k : Nat) (a0 : Int) (l1 : List (List Int)) : Option ((List (List Int)) × (List (List Int)) × (List (List Int)) × (List (S61))) := (impl_clones.f k l1).bind fun t228 => ((impl_zeros.f k a0 a0).bind fun t231 => ((impl_sides.f a0 l1).bind fun t234 => ((impl_zeros.f k (t234.length : Int) a0).bind fun t237 => (some (t228, t231, t237, ([] : List (S61)))))))
theorem impl_newFlood.mono : ∀ a0 a1 k, LeO (impl_newFlood.f k a0 a1) (impl_newFlood.f (k + 1) a0 a1) := by
  intro a0 a1 k
  unfold impl_newFlood.f
  repeat' first
      | (with_reducible exact impl_clones.mono _ _)
      | (with_reducible exact impl_zeros.mono _ _ _)
      | (with_reducible exact LeO.refl _)
      | (with_reducible exact LeO.none _)
      | (with_reducible refine LeO.ite ?_ ?_)
      | (with_reducible refine LeO.bind ?_ (fun _ => ?_))
      | exact impl_clones.mono _ _
      | exact impl_zeros.mono _ _ _
      | exact LeO.none _
      | refine LeO.ite ?_ ?_
      | refine LeO.bind ?_ (fun _ => ?_)
set_option maxHeartbeats 8000000 in
set_option maxRecDepth 100000 in
theorem impl_newFlood.calls (k : Nat) (a0 : Int) (A1 : Option Addr) (c1 : Nat) (l1 : List (List Int)) (r1 : List (List Int)) (r2 : List (List Int)) (r3 : List (List Int)) (r4 : List (S61)) (w : World) (hr1 : Kd.C (Kd.slice 3 (Kd.int .i64)) w A1 l1.length l1) (hc1 : l1.length ≤ c1) (h : impl_newFlood.f k a0 l1 = some (r1, r2, r3, r4)) :
    Calls Try.prog 29 #[.int .i64 a0, .slice A1 l1.length c1] w fun e w' => ∃ v0_ v1_ v2_ v3_ : Value, e = .returned (.agg #[v0_, v1_, v2_, v3_]) ∧ Kd.S (Kd.slice 3 (Kd.int .i64)) 46 w' w.heap.size (fun k_ => some k_ ≠ (v1_ : Value).ownBlock ∧ some k_ ≠ (v2_ : Value).ownBlock) v0_ r1 ∧ Kd.S (Kd.slice 3 (Kd.int .i64)) 46 w' w.heap.size (fun k_ => some k_ ≠ (v0_ : Value).ownBlock ∧ some k_ ≠ (v2_ : Value).ownBlock) v1_ r2 ∧ Kd.S (Kd.slice 3 (Kd.int .i64)) 46 w' w.heap.size (fun k_ => some k_ ≠ (v0_ : Value).ownBlock ∧ some k_ ≠ (v1_ : Value).ownBlock) v2_ r3 ∧ Kd.R k61 61 w' w.heap.size (fun _ => True) v3_ r4 ∧ Below w.heap.size w w' := by
  have hu26 := Try.underlying26
  have HR1 := Aside0.mk hr1
  have HC1 := Aside0.mk hc1
  clear hr1 hc1
  have HB := Aside0.mk (Below.refl w.heap.size w)
  have H : ((impl_clones.f k l1).bind fun t228 => ((impl_zeros.f k a0 a0).bind fun t231 => ((impl_sides.f a0 l1).bind fun t234 => ((impl_zeros.f k (t234.length : Int) a0).bind fun t237 => (some (t228, t231, t237, ([] : List (S61)))))))) = some (r1, r2, r3, r4) := h
  clear h
  replace H := Option.bind_eq_some_iff.mp H
  obtain ⟨t228, A30, H⟩ := H
  replace H : ((impl_zeros.f k a0 a0).bind fun t231 => ((impl_sides.f a0 l1).bind fun t234 => ((impl_zeros.f k (t234.length : Int) a0).bind fun t237 => (some (t228, t231, t237, ([] : List (S61))))))) = some (r1, r2, r3, r4) := H
  have A3 := Aside0.mk A30
  clear A30
  replace H := Option.bind_eq_some_iff.mp H
  obtain ⟨t231, A40, H⟩ := H
  replace H : ((impl_sides.f a0 l1).bind fun t234 => ((impl_zeros.f k (t234.length : Int) a0).bind fun t237 => (some (t228, t231, t237, ([] : List (S61)))))) = some (r1, r2, r3, r4) := H
  have A4 := Aside0.mk A40
  clear A40
  replace H := Option.bind_eq_some_iff.mp H
  obtain ⟨t234, A50, H⟩ := H
  replace H : ((impl_zeros.f k (t234.length : Int) a0).bind fun t237 => (some (t228, t231, t237, ([] : List (S61))))) = some (r1, r2, r3, r4) := H
  have A5 := Aside0.mk A50
  clear A50
  replace H := Option.bind_eq_some_iff.mp H
  obtain ⟨t237, A60, H⟩ := H
  replace H : (some (t228, t231, t237, ([] : List (S61)))) = some (r1, r2, r3, r4) := H
  have A6 := Aside0.mk A60
  clear A60
  simp only [Option.some.injEq, Prod.mk.injEq] at H
  obtain ⟨rfl, rfl, rfl, rfl⟩ := H
  go_enter Try.func29, Try.ntmps29
  go_wp2_with (first | ((with_reducible refine gate_dst (N := 4) rfl ?_); refine box_event ?hg (N := 4) ?hd (cs := #[.slice none 0 0, .slice none 0 0, .slice none 0 0, .slice none 0 0]) (t := 26) ?hr ?_; (case hd => rfl); (case hg => rfl); (case hr => first | (go_simp; done) | (go_simp; rfl)); intro gb227 hg w7 hbox hb; have n0_ := Aside0.mk (below_step (by repeat (first | (with_reducible first | exact HB.out | apply below_alloc | apply pw_below_drewN | apply below_drew1) | exact HB.out)) hb); have n1_ := Aside0.mk (hbox); have n2_ := Aside0.mk ((by rw [hg]; exact (below_size (by repeat (first | (with_reducible first | exact HB.out | apply below_alloc | apply pw_below_drewN | apply below_drew1) | exact HB.out))) : w.heap.size ≤ gb227)); have n3_ := Aside0.mk ((by rw [hg]; exact (below_size (by repeat (first | (with_reducible first | exact HB.out | apply below_alloc | apply pw_below_drewN | apply below_drew1) | exact HB.out))) : w.heap.size ≤ gb227)); clear HB; have HB := n0_; have BK227 := n1_; have GW227 := n2_; have GE227 := n3_; clear n0_ n1_ n2_ n3_; clear hb hbox hg) | ((with_reducible refine gate_callee (f := 53) rfl ?_); refine goesL_ (some 6) rfl rfl Try.func53 (by kernel_rfl) rfl #[.slice A1 l1.length c1] rfl (by (try simp only [List.map_toArray, List.map_cons, List.map_nil]); first | done | rfl | (simp only [List.length_drop, List.length_take]; rfl)) ?_; (with_reducible refine (impl_clones.calls k _ _ l1 t228 _ ?side1 ?side2 A3.out).mono ?_); (case side1 => repeat (first | exact (Kd.C_below HR1.out HB.out) | (with_reducible refine Kd.C_alloc ?_ _) | (with_reducible refine Kd.C_drewN ?_ _) | (with_reducible refine Kd.C_drew ?_))); (case side2 => exact HC1.out); rintro e w8 ⟨v229, rfl, ho0, hb⟩; refine ⟨_, rfl, ?_⟩; have n0_ := Aside0.mk (Kd.S_lower ho0 (below_size (by repeat (first | (with_reducible first | exact HB.out | apply below_alloc | apply pw_below_drewN | apply below_drew1 | refine below_set ?_ GE227.out) | exact HB.out)))); have n1_ := Aside0.mk (blk_below (g := gb227) (o := .cells #[.slice none 0 0, .slice none 0 0, .slice none 0 0, .slice none 0 0] 26 (0, 0)) (by (with_reducible repeat (first | refine blk_drewN ?_ _ | refine blk_drew ?_ | refine blk_alloc ?_ _)); exact BK227.out) hb); have n2_ := Aside0.mk (below_step (by repeat (first | (with_reducible first | exact HB.out | apply below_alloc | apply pw_below_drewN | apply below_drew1 | refine below_set ?_ GE227.out) | exact HB.out)) hb); clear BK227; clear HB; have HO230 := n0_; have BK227 := n1_; have HB := n2_; clear n0_ n1_ n2_; (try clear hb); (try clear hb2); (try clear hk); (try clear hi); (try clear ho0)) | ((with_reducible refine gate_callee (f := 54) rfl ?_); refine goesL_ (some 9) rfl rfl Try.func54 (by kernel_rfl) rfl #[.int .i64 a0, .int .i64 a0] rfl (by (try simp only [List.map_toArray, List.map_cons, List.map_nil]); first | done | rfl | (simp only [List.length_drop, List.length_take]; rfl)) ?_; (with_reducible refine (impl_zeros.calls k a0 a0 t231 _ A4.out).mono ?_); rintro e w9 ⟨v232, rfl, ho0, hb⟩; refine ⟨_, rfl, ?_⟩; have n0_ := Aside0.mk (Kd.S_elder' (by (with_reducible repeat (first | apply Kd.S_alloc | apply Kd.S_drewN | apply Kd.S_drew)); exact HO230.out) (Kd.S_base ho0) hb); have n1_ := Aside0.mk (Kd.S_lower (Kd.S_new' ho0 (Kd.S_lt (by (with_reducible repeat (first | apply Kd.S_alloc | apply Kd.S_drewN | apply Kd.S_drew)); exact HO230.out))) (below_size (by repeat (first | (with_reducible first | exact HB.out | apply below_alloc | apply pw_below_drewN | apply below_drew1 | refine below_set ?_ GE227.out) | exact HB.out)))); have n2_ := Aside0.mk (blk_below (g := gb227) (o := .cells #[.slice none 0 0, .slice none 0 0, .slice none 0 0, .slice none 0 0] 26 (0, 0)) (by (with_reducible repeat (first | refine blk_drewN ?_ _ | refine blk_drew ?_ | refine blk_alloc ?_ _)); exact BK227.out) hb); have n3_ := Aside0.mk (below_step (by repeat (first | (with_reducible first | exact HB.out | apply below_alloc | apply pw_below_drewN | apply below_drew1 | refine below_set ?_ GE227.out) | exact HB.out)) hb); clear HO230; clear BK227; clear HB; have HO230 := n0_; have HO233 := n1_; have BK227 := n2_; have HB := n3_; clear n0_ n1_ n2_ n3_; (try clear hb); (try clear hb2); (try clear hk); (try clear hi); (try clear ho0)) | ((with_reducible refine gate_callee (f := 55) rfl ?_); refine goesL_ (some 12) rfl rfl Try.func55 (by kernel_rfl) rfl #[.int .i64 a0, .slice A1 l1.length c1] rfl (by (try simp only [List.map_toArray, List.map_cons, List.map_nil]); first | done | rfl | (simp only [List.length_drop, List.length_take]; rfl)) ?_; (with_reducible refine (impl_sides.calls a0 _ _ l1 t234 _ ?side1 ?side2 A5.out).mono ?_); (case side1 => repeat (first | exact (Kd.C_below HR1.out HB.out) | (with_reducible refine Kd.C_alloc ?_ _) | (with_reducible refine Kd.C_drewN ?_ _) | (with_reducible refine Kd.C_drew ?_))); (case side2 => exact HC1.out); rintro e w10 ⟨v235, rfl, ho0, hb⟩; refine ⟨_, rfl, ?_⟩; have n0_ := Aside0.mk (Kd.S_below (by (with_reducible repeat (first | apply Kd.S_alloc | apply Kd.S_drewN | apply Kd.S_drew)); exact HO230.out) hb); have n1_ := Aside0.mk (Kd.S_below (by (with_reducible repeat (first | apply Kd.S_alloc | apply Kd.S_drewN | apply Kd.S_drew)); exact HO233.out) hb); have n2_ := Aside0.mk (Kd.R_lower ho0 (below_size (by repeat (first | (with_reducible first | exact HB.out | apply below_alloc | apply pw_below_drewN | apply below_drew1 | refine below_set ?_ GE227.out) | exact HB.out)))); have n3_ := Aside0.mk (blk_below (g := gb227) (o := .cells #[.slice none 0 0, .slice none 0 0, .slice none 0 0, .slice none 0 0] 26 (0, 0)) (by (with_reducible repeat (first | refine blk_drewN ?_ _ | refine blk_drew ?_ | refine blk_alloc ?_ _)); exact BK227.out) hb); have n4_ := Aside0.mk (below_step (by repeat (first | (with_reducible first | exact HB.out | apply below_alloc | apply pw_below_drewN | apply below_drew1 | refine below_set ?_ GE227.out) | exact HB.out)) hb); clear HO230; clear HO233; clear BK227; clear HB; have HO230 := n0_; have HO233 := n1_; have HO236 := n2_; have BK227 := n3_; have HB := n4_; clear n0_ n1_ n2_ n3_ n4_; (try clear hb); (try clear hb2); (try clear hk); (try clear hi); (try clear ho0); obtain ⟨Ao11, co11, eo11⟩ := Kd.R_slice HO236.out; subst eo11) | ((with_reducible refine gate_callee (f := 54) rfl ?_); refine goesL_ (some 15) rfl rfl Try.func54 (by kernel_rfl) rfl #[.int .i64 (t234.length : Int), .int .i64 a0] rfl (by (try simp only [List.map_toArray, List.map_cons, List.map_nil]); first | done | rfl | (simp only [List.length_drop, List.length_take]; rfl)) ?_; (with_reducible refine (impl_zeros.calls k (t234.length : Int) a0 t237 _ A6.out).mono ?_); rintro e w12 ⟨v238, rfl, ho0, hb⟩; refine ⟨_, rfl, ?_⟩; have n0_ := Aside0.mk (Kd.S_elder' (by (with_reducible repeat (first | apply Kd.S_alloc | apply Kd.S_drewN | apply Kd.S_drew)); exact HO230.out) (Kd.S_base ho0) hb); have n1_ := Aside0.mk (Kd.S_elder' (by (with_reducible repeat (first | apply Kd.S_alloc | apply Kd.S_drewN | apply Kd.S_drew)); exact HO233.out) (Kd.S_base ho0) hb); have n2_ := Aside0.mk (Kd.R_below (by (with_reducible repeat (first | apply Kd.R_alloc | apply Kd.R_drewN | apply Kd.R_drew)); exact HO236.out) hb); have n3_ := Aside0.mk (Kd.S_lower (Kd.S_new' (Kd.S_new' ho0 (Kd.S_lt (by (with_reducible repeat (first | apply Kd.S_alloc | apply Kd.S_drewN | apply Kd.S_drew)); exact HO230.out))) (Kd.S_lt (by (with_reducible repeat (first | apply Kd.S_alloc | apply Kd.S_drewN | apply Kd.S_drew)); exact HO233.out))) (below_size (by repeat (first | (with_reducible first | exact HB.out | apply below_alloc | apply pw_below_drewN | apply below_drew1 | refine below_set ?_ GE227.out) | exact HB.out)))); have n4_ := Aside0.mk (blk_below (g := gb227) (o := .cells #[.slice none 0 0, .slice none 0 0, .slice none 0 0, .slice none 0 0] 26 (0, 0)) (by (with_reducible repeat (first | refine blk_drewN ?_ _ | refine blk_drew ?_ | refine blk_alloc ?_ _)); exact BK227.out) hb); have n5_ := Aside0.mk (below_step (by repeat (first | (with_reducible first | exact HB.out | apply below_alloc | apply pw_below_drewN | apply below_drew1 | refine below_set ?_ GE227.out) | exact HB.out)) hb); clear HO230; clear HO233; clear HO236; clear BK227; clear HB; have HO230 := n0_; have HO233 := n1_; have HO236 := n2_; have HO239 := n3_; have BK227 := n4_; have HB := n5_; clear n0_ n1_ n2_ n3_ n4_ n5_; (try clear hb); (try clear hb2); (try clear hk); (try clear hi); (try clear ho0); obtain ⟨Ao13, co13, eo13⟩ := Kd.S_slice HO239.out; subst eo13; obtain ⟨Ao14, co14, eo14⟩ := Kd.S_slice HO233.out; subst eo14; obtain ⟨Ao15, co15, eo15⟩ := Kd.S_slice HO230.out; subst eo15; have hcz16_0 : w12.cell? ⟨gb227, 0, none⟩ = some (.slice none 0 0) := (blk_cell BK227.out 0).trans rfl; have hcz16_1 : w12.cell? ⟨gb227, 1, none⟩ = some (.slice none 0 0) := (blk_cell BK227.out 1).trans rfl; have hcz16_2 : w12.cell? ⟨gb227, 2, none⟩ = some (.slice none 0 0) := (blk_cell BK227.out 2).trans rfl; have hcz16_3 : w12.cell? ⟨gb227, 3, none⟩ = some (.slice none 0 0) := (blk_cell BK227.out 3).trans rfl; have hfz16_0 := blk_frozen BK227.out 0; have hfz16_1 := blk_frozen BK227.out 1; have hfz16_2 := blk_frozen BK227.out 2; have hfz16_3 := blk_frozen BK227.out 3))
  refine bodyPost_ret (results_cell_row rfl _ _ gb227 26 #[.slice Ao15 t228.length co15, .slice Ao14 t231.length co14, .slice Ao13 t237.length co13, .slice none 0 0] (0, 0) _ rfl (by (with_reducible repeat (first | refine blk_drewN ?_ _ | refine blk_drew ?_ | refine blk_alloc ?_ _)); refine blk_put (cs := #[.slice Ao15 t228.length co15, .slice Ao14 t231.length co14, .slice Ao13 t237.length co13, .slice none 0 0]) ?_ 3 _ rfl; (with_reducible repeat (first | refine blk_drewN ?_ _ | refine blk_drew ?_ | refine blk_alloc ?_ _)); refine blk_put (cs := #[.slice Ao15 t228.length co15, .slice Ao14 t231.length co14, .slice none 0 0, .slice none 0 0]) ?_ 2 _ rfl; (with_reducible repeat (first | refine blk_drewN ?_ _ | refine blk_drew ?_ | refine blk_alloc ?_ _)); refine blk_put (cs := #[.slice Ao15 t228.length co15, .slice none 0 0, .slice none 0 0, .slice none 0 0]) ?_ 1 _ rfl; (with_reducible repeat (first | refine blk_drewN ?_ _ | refine blk_drew ?_ | refine blk_alloc ?_ _)); refine blk_put (cs := #[.slice none 0 0, .slice none 0 0, .slice none 0 0, .slice none 0 0]) ?_ 0 _ rfl; (with_reducible repeat (first | refine blk_drewN ?_ _ | refine blk_drew ?_ | refine blk_alloc ?_ _)); exact BK227.out) Try.underlying26 rfl (by kernel_rfl)) rfl ?_
  exact ⟨_, _, _, _, by first | rfl | (simp [errW_none, errW_some] <;> rfl) | (simp [*, errW_none, errW_some] <;> rfl), by (with_reducible repeat (first | apply Kd.S_alloc | apply Kd.S_drewN | apply Kd.S_drew)); exact Kd.S_mono (Kd.S_far (p := ⟨gb227, 3, none⟩) (Kd.S_far (p := ⟨gb227, 2, none⟩) (Kd.S_far (p := ⟨gb227, 1, none⟩) (Kd.S_far (p := ⟨gb227, 0, none⟩) (Kd.S_types HO230.out BK227.out (by decide)) (fun _ hk => hk.2) (.slice Ao15 t228.length co15)) (fun _ hk => hk.2) (.slice Ao14 t231.length co14)) (fun _ hk => hk.2) (.slice Ao13 t237.length co13)) (fun _ hk => hk.2) (.slice none 0 0)) (fun _ hk => ⟨hk.1.1.2, hk.1.2⟩), by (with_reducible repeat (first | apply Kd.S_alloc | apply Kd.S_drewN | apply Kd.S_drew)); exact Kd.S_mono (Kd.S_far (p := ⟨gb227, 3, none⟩) (Kd.S_far (p := ⟨gb227, 2, none⟩) (Kd.S_far (p := ⟨gb227, 1, none⟩) (Kd.S_far (p := ⟨gb227, 0, none⟩) (Kd.S_types HO233.out BK227.out (by decide)) (fun _ hk => hk.2) (.slice Ao15 t228.length co15)) (fun _ hk => hk.2) (.slice Ao14 t231.length co14)) (fun _ hk => hk.2) (.slice Ao13 t237.length co13)) (fun _ hk => hk.2) (.slice none 0 0)) (fun _ hk => ⟨hk.1.1.2, hk.1.2⟩), by (with_reducible repeat (first | apply Kd.S_alloc | apply Kd.S_drewN | apply Kd.S_drew)); exact Kd.S_mono (Kd.S_far (p := ⟨gb227, 3, none⟩) (Kd.S_far (p := ⟨gb227, 2, none⟩) (Kd.S_far (p := ⟨gb227, 1, none⟩) (Kd.S_far (p := ⟨gb227, 0, none⟩) (Kd.S_types HO239.out BK227.out (by decide)) (fun _ hk => hk.2) (.slice Ao15 t228.length co15)) (fun _ hk => hk.2) (.slice Ao14 t231.length co14)) (fun _ hk => hk.2) (.slice Ao13 t237.length co13)) (fun _ hk => hk.2) (.slice none 0 0)) (fun _ hk => ⟨hk.1.1.2, hk.1.2⟩), by first | exact Kd.R_nil _ _ _ _ _ | exact Kd.N_nil _ _ _ _ _ | exact Kd.V_nil _ _ _ _ _ | exact Kd.Q_nil _ _ _ _ _ | exact Kd.S_nil _ _ _ _ _, by repeat (first | (with_reducible first | exact HB.out | apply below_alloc | apply pw_below_drewN | apply below_drew1 | refine below_set ?_ GE227.out) | exact HB.out)⟩
set_option maxHeartbeats 8000000 in
set_option maxRecDepth 100000 in
theorem impl_newFlood.callsI (k : Nat) (a0 : Int) (A1 : Option Addr) (c1 : Nat) (l1 : List (List Int)) (r1 : List (List Int)) (r2 : List (List Int)) (r3 : List (List Int)) (r4 : List (S61)) (w : World) (hr1 : Kd.C (Kd.slice 3 (Kd.int .i64)) w A1 l1.length l1) (hc1 : l1.length ≤ c1) (h : impl_newFlood.f k a0 l1 = some (r1, r2, r3, r4)) :
    Calls Try.prog 29 #[.int .i64 a0, .slice A1 l1.length c1] w fun e w' => ∃ (m1 m2 : Nat) (v0_ v1_ v2_ : Value), e = .returned (.agg #[v0_, v1_, v2_, .slice none 0 0]) ∧ m1 ≤ m2 ∧ r4 = [] ∧ Kd.S (Kd.slice 3 (Kd.int .i64)) 46 w' w.heap.size (fun k_ => k_ < m1) v0_ r1 ∧ Kd.S (Kd.slice 3 (Kd.int .i64)) 46 w' w.heap.size (fun k_ => m1 ≤ k_ ∧ k_ < m2) v1_ r2 ∧ Kd.S (Kd.slice 3 (Kd.int .i64)) 46 w' w.heap.size (fun k_ => m2 ≤ k_) v2_ r3 ∧ Below w.heap.size w w' := by
  have hu26 := Try.underlying26
  have HR1 := Aside0.mk hr1
  have HC1 := Aside0.mk hc1
  clear hr1 hc1
  have HB := Aside0.mk (Below.refl w.heap.size w)
  have H : ((impl_clones.f k l1).bind fun t228 => ((impl_zeros.f k a0 a0).bind fun t231 => ((impl_sides.f a0 l1).bind fun t234 => ((impl_zeros.f k (t234.length : Int) a0).bind fun t237 => (some (t228, t231, t237, ([] : List (S61)))))))) = some (r1, r2, r3, r4) := h
  clear h
  replace H := Option.bind_eq_some_iff.mp H
  obtain ⟨t228, A30, H⟩ := H
  replace H : ((impl_zeros.f k a0 a0).bind fun t231 => ((impl_sides.f a0 l1).bind fun t234 => ((impl_zeros.f k (t234.length : Int) a0).bind fun t237 => (some (t228, t231, t237, ([] : List (S61))))))) = some (r1, r2, r3, r4) := H
  have A3 := Aside0.mk A30
  clear A30
  replace H := Option.bind_eq_some_iff.mp H
  obtain ⟨t231, A40, H⟩ := H
  replace H : ((impl_sides.f a0 l1).bind fun t234 => ((impl_zeros.f k (t234.length : Int) a0).bind fun t237 => (some (t228, t231, t237, ([] : List (S61)))))) = some (r1, r2, r3, r4) := H
  have A4 := Aside0.mk A40
  clear A40
  replace H := Option.bind_eq_some_iff.mp H
  obtain ⟨t234, A50, H⟩ := H
  replace H : ((impl_zeros.f k (t234.length : Int) a0).bind fun t237 => (some (t228, t231, t237, ([] : List (S61))))) = some (r1, r2, r3, r4) := H
  have A5 := Aside0.mk A50
  clear A50
  replace H := Option.bind_eq_some_iff.mp H
  obtain ⟨t237, A60, H⟩ := H
  replace H : (some (t228, t231, t237, ([] : List (S61)))) = some (r1, r2, r3, r4) := H
  have A6 := Aside0.mk A60
  clear A60
  simp only [Option.some.injEq, Prod.mk.injEq] at H
  obtain ⟨rfl, rfl, rfl, rfl⟩ := H
  go_enter Try.func29, Try.ntmps29
  go_wp2_with (first | ((with_reducible refine gate_dst (N := 4) rfl ?_); refine box_event ?hg (N := 4) ?hd (cs := #[.slice none 0 0, .slice none 0 0, .slice none 0 0, .slice none 0 0]) (t := 26) ?hr ?_; (case hd => rfl); (case hg => rfl); (case hr => first | (go_simp; done) | (go_simp; rfl)); intro gb227 hg w7 hbox hb; have n0_ := Aside0.mk (below_step (by repeat (first | (with_reducible first | exact HB.out | apply below_alloc | apply pw_below_drewN | apply below_drew1) | exact HB.out)) hb); have n1_ := Aside0.mk (hbox); have n2_ := Aside0.mk ((by rw [hg]; exact (below_size (by repeat (first | (with_reducible first | exact HB.out | apply below_alloc | apply pw_below_drewN | apply below_drew1) | exact HB.out))) : w.heap.size ≤ gb227)); have n3_ := Aside0.mk ((by rw [hg]; exact (below_size (by repeat (first | (with_reducible first | exact HB.out | apply below_alloc | apply pw_below_drewN | apply below_drew1) | exact HB.out))) : w.heap.size ≤ gb227)); clear HB; have HB := n0_; have BK227 := n1_; have GW227 := n2_; have GE227 := n3_; clear n0_ n1_ n2_ n3_; clear hb hbox hg) | ((with_reducible refine gate_callee (f := 53) rfl ?_); refine goesL_ (some 6) rfl rfl Try.func53 (by kernel_rfl) rfl #[.slice A1 l1.length c1] rfl (by (try simp only [List.map_toArray, List.map_cons, List.map_nil]); first | done | rfl | (simp only [List.length_drop, List.length_take]; rfl)) ?_; (with_reducible refine (impl_clones.calls k _ _ l1 t228 _ ?side1 ?side2 A3.out).mono ?_); (case side1 => repeat (first | exact (Kd.C_below HR1.out HB.out) | (with_reducible refine Kd.C_alloc ?_ _) | (with_reducible refine Kd.C_drewN ?_ _) | (with_reducible refine Kd.C_drew ?_))); (case side2 => exact HC1.out); rintro e w8 ⟨v229, rfl, ho0, hb⟩; refine ⟨_, rfl, ?_⟩; have n0_ := Aside0.mk (Kd.S_lower (Kd.S_mono (Kd.S_bound ho0) (fun k_ hk => (hk.2.2.1 : k_ < w8.heap.size))) (below_size (by repeat (first | (with_reducible first | exact HB.out | apply below_alloc | apply pw_below_drewN | apply below_drew1 | refine below_set ?_ GE227.out) | exact HB.out)))); have n1_ := Aside0.mk (blk_below (g := gb227) (o := .cells #[.slice none 0 0, .slice none 0 0, .slice none 0 0, .slice none 0 0] 26 (0, 0)) (by (with_reducible repeat (first | refine blk_drewN ?_ _ | refine blk_drew ?_ | refine blk_alloc ?_ _)); exact BK227.out) hb); have n2_ := Aside0.mk (below_step (by repeat (first | (with_reducible first | exact HB.out | apply below_alloc | apply pw_below_drewN | apply below_drew1 | refine below_set ?_ GE227.out) | exact HB.out)) hb); clear BK227; clear HB; have HO230 := n0_; have BK227 := n1_; have HB := n2_; clear n0_ n1_ n2_; (try clear hb); (try clear hb2); (try clear hk); (try clear hi); (try clear ho0)) | ((with_reducible refine gate_callee (f := 54) rfl ?_); refine goesL_ (some 9) rfl rfl Try.func54 (by kernel_rfl) rfl #[.int .i64 a0, .int .i64 a0] rfl (by (try simp only [List.map_toArray, List.map_cons, List.map_nil]); first | done | rfl | (simp only [List.length_drop, List.length_take]; rfl)) ?_; (with_reducible refine (impl_zeros.calls k a0 a0 t231 _ A4.out).mono ?_); rintro e w9 ⟨v232, rfl, ho0, hb⟩; refine ⟨_, rfl, ?_⟩; have HZ9 := Aside0.mk ((Nat.le_trans (below_size (by repeat (first | (with_reducible first | exact Below.refl w8.heap.size w8 | apply below_alloc | apply pw_below_drewN | apply below_drew1) | exact Below.refl w8.heap.size w8))) hb.size : w8.heap.size ≤ w9.heap.size)); have n0_ := Aside0.mk (Kd.S_elder' (by (with_reducible repeat (first | apply Kd.S_alloc | apply Kd.S_drewN | apply Kd.S_drew)); exact HO230.out) (Kd.S_base ho0) hb); have n1_ := Aside0.mk (Kd.S_lower (Kd.S_new' (Kd.S_mono (Kd.S_bound ho0) (fun k_ hk => (Nat.le_trans (below_size (by repeat (first | (with_reducible first | exact Below.refl w8.heap.size w8 | apply below_alloc | apply pw_below_drewN | apply below_drew1) | exact Below.refl w8.heap.size w8))) hk.2.1 : w8.heap.size ≤ k_))) (Kd.S_lt (by (with_reducible repeat (first | apply Kd.S_alloc | apply Kd.S_drewN | apply Kd.S_drew)); exact HO230.out))) (below_size (by repeat (first | (with_reducible first | exact HB.out | apply below_alloc | apply pw_below_drewN | apply below_drew1 | refine below_set ?_ GE227.out) | exact HB.out)))); have n2_ := Aside0.mk (blk_below (g := gb227) (o := .cells #[.slice none 0 0, .slice none 0 0, .slice none 0 0, .slice none 0 0] 26 (0, 0)) (by (with_reducible repeat (first | refine blk_drewN ?_ _ | refine blk_drew ?_ | refine blk_alloc ?_ _)); exact BK227.out) hb); have n3_ := Aside0.mk (below_step (by repeat (first | (with_reducible first | exact HB.out | apply below_alloc | apply pw_below_drewN | apply below_drew1 | refine below_set ?_ GE227.out) | exact HB.out)) hb); clear HO230; clear BK227; clear HB; have HO230 := n0_; have HO233 := n1_; have BK227 := n2_; have HB := n3_; clear n0_ n1_ n2_ n3_; (try clear hb); (try clear hb2); (try clear hk); (try clear hi); (try clear ho0)) | ((with_reducible refine gate_callee (f := 55) rfl ?_); refine goesL_ (some 12) rfl rfl Try.func55 (by kernel_rfl) rfl #[.int .i64 a0, .slice A1 l1.length c1] rfl (by (try simp only [List.map_toArray, List.map_cons, List.map_nil]); first | done | rfl | (simp only [List.length_drop, List.length_take]; rfl)) ?_; (with_reducible refine (impl_sides.calls a0 _ _ l1 t234 _ ?side1 ?side2 A5.out).mono ?_); (case side1 => repeat (first | exact (Kd.C_below HR1.out HB.out) | (with_reducible refine Kd.C_alloc ?_ _) | (with_reducible refine Kd.C_drewN ?_ _) | (with_reducible refine Kd.C_drew ?_))); (case side2 => exact HC1.out); rintro e w10 ⟨v235, rfl, ho0, hb⟩; refine ⟨_, rfl, ?_⟩; have HZ10 := Aside0.mk ((Nat.le_trans HZ9.out (Nat.le_trans (below_size (by repeat (first | (with_reducible first | exact Below.refl w9.heap.size w9 | apply below_alloc | apply pw_below_drewN | apply below_drew1) | exact Below.refl w9.heap.size w9))) hb.size) : w8.heap.size ≤ w10.heap.size)); have n0_ := Aside0.mk (Kd.S_below (by (with_reducible repeat (first | apply Kd.S_alloc | apply Kd.S_drewN | apply Kd.S_drew)); exact HO230.out) hb); have n1a_ := (Kd.S_below (by (with_reducible repeat (first | apply Kd.S_alloc | apply Kd.S_drewN | apply Kd.S_drew)); exact HO233.out) hb); have n1_ := Aside0.mk (Kd.S_mono (Kd.S_bound n1a_) (fun k_ hk => And.intro hk.1 hk.2.2.1)); clear n1a_; have n2_ := Aside0.mk (Kd.R_lower ho0 (below_size (by repeat (first | (with_reducible first | exact HB.out | apply below_alloc | apply pw_below_drewN | apply below_drew1 | refine below_set ?_ GE227.out) | exact HB.out)))); have n3_ := Aside0.mk (blk_below (g := gb227) (o := .cells #[.slice none 0 0, .slice none 0 0, .slice none 0 0, .slice none 0 0] 26 (0, 0)) (by (with_reducible repeat (first | refine blk_drewN ?_ _ | refine blk_drew ?_ | refine blk_alloc ?_ _)); exact BK227.out) hb); have n4_ := Aside0.mk (below_step (by repeat (first | (with_reducible first | exact HB.out | apply below_alloc | apply pw_below_drewN | apply below_drew1 | refine below_set ?_ GE227.out) | exact HB.out)) hb); clear HO230; clear HO233; clear BK227; clear HB; have HO230 := n0_; have HO233 := n1_; have HO236 := n2_; have BK227 := n3_; have HB := n4_; clear n0_ n1_ n2_ n3_ n4_; (try clear hb); (try clear hb2); (try clear hk); (try clear hi); (try clear ho0); obtain ⟨Ao11, co11, eo11⟩ := Kd.R_slice HO236.out; subst eo11) | ((with_reducible refine gate_callee (f := 54) rfl ?_); refine goesL_ (some 15) rfl rfl Try.func54 (by kernel_rfl) rfl #[.int .i64 (t234.length : Int), .int .i64 a0] rfl (by (try simp only [List.map_toArray, List.map_cons, List.map_nil]); first | done | rfl | (simp only [List.length_drop, List.length_take]; rfl)) ?_; (with_reducible refine (impl_zeros.calls k (t234.length : Int) a0 t237 _ A6.out).mono ?_); rintro e w12 ⟨v238, rfl, ho0, hb⟩; refine ⟨_, rfl, ?_⟩; have n0_ := Aside0.mk (Kd.S_elder' (by (with_reducible repeat (first | apply Kd.S_alloc | apply Kd.S_drewN | apply Kd.S_drew)); exact HO230.out) (Kd.S_base ho0) hb); have n1_ := Aside0.mk (Kd.S_elder' (by (with_reducible repeat (first | apply Kd.S_alloc | apply Kd.S_drewN | apply Kd.S_drew)); exact HO233.out) (Kd.S_base ho0) hb); have n2_ := Aside0.mk (Kd.R_below (by (with_reducible repeat (first | apply Kd.R_alloc | apply Kd.R_drewN | apply Kd.R_drew)); exact HO236.out) hb); have n3_ := Aside0.mk (Kd.S_lower (Kd.S_new' (Kd.S_new' (Kd.S_mono (Kd.S_bound ho0) (fun k_ hk => (Nat.le_trans (below_size (by repeat (first | (with_reducible first | exact Below.refl w10.heap.size w10 | apply below_alloc | apply pw_below_drewN | apply below_drew1) | exact Below.refl w10.heap.size w10))) hk.2.1 : w10.heap.size ≤ k_))) (Kd.S_lt (by (with_reducible repeat (first | apply Kd.S_alloc | apply Kd.S_drewN | apply Kd.S_drew)); exact HO230.out))) (Kd.S_lt (by (with_reducible repeat (first | apply Kd.S_alloc | apply Kd.S_drewN | apply Kd.S_drew)); exact HO233.out))) (below_size (by repeat (first | (with_reducible first | exact HB.out | apply below_alloc | apply pw_below_drewN | apply below_drew1 | refine below_set ?_ GE227.out) | exact HB.out)))); have n4_ := Aside0.mk (blk_below (g := gb227) (o := .cells #[.slice none 0 0, .slice none 0 0, .slice none 0 0, .slice none 0 0] 26 (0, 0)) (by (with_reducible repeat (first | refine blk_drewN ?_ _ | refine blk_drew ?_ | refine blk_alloc ?_ _)); exact BK227.out) hb); have n5_ := Aside0.mk (below_step (by repeat (first | (with_reducible first | exact HB.out | apply below_alloc | apply pw_below_drewN | apply below_drew1 | refine below_set ?_ GE227.out) | exact HB.out)) hb); clear HO230; clear HO233; clear HO236; clear BK227; clear HB; have HO230 := n0_; have HO233 := n1_; have HO236 := n2_; have HO239 := n3_; have BK227 := n4_; have HB := n5_; clear n0_ n1_ n2_ n3_ n4_ n5_; (try clear hb); (try clear hb2); (try clear hk); (try clear hi); (try clear ho0); obtain ⟨Ao13, co13, eo13⟩ := Kd.S_slice HO239.out; subst eo13; obtain ⟨Ao14, co14, eo14⟩ := Kd.S_slice HO233.out; subst eo14; obtain ⟨Ao15, co15, eo15⟩ := Kd.S_slice HO230.out; subst eo15; have hcz16_0 : w12.cell? ⟨gb227, 0, none⟩ = some (.slice none 0 0) := (blk_cell BK227.out 0).trans rfl; have hcz16_1 : w12.cell? ⟨gb227, 1, none⟩ = some (.slice none 0 0) := (blk_cell BK227.out 1).trans rfl; have hcz16_2 : w12.cell? ⟨gb227, 2, none⟩ = some (.slice none 0 0) := (blk_cell BK227.out 2).trans rfl; have hcz16_3 : w12.cell? ⟨gb227, 3, none⟩ = some (.slice none 0 0) := (blk_cell BK227.out 3).trans rfl; have hfz16_0 := blk_frozen BK227.out 0; have hfz16_1 := blk_frozen BK227.out 1; have hfz16_2 := blk_frozen BK227.out 2; have hfz16_3 := blk_frozen BK227.out 3))
  refine bodyPost_ret (results_cell_row rfl _ _ gb227 26 #[.slice Ao15 t228.length co15, .slice Ao14 t231.length co14, .slice Ao13 t237.length co13, .slice none 0 0] (0, 0) _ rfl (by (with_reducible repeat (first | refine blk_drewN ?_ _ | refine blk_drew ?_ | refine blk_alloc ?_ _)); refine blk_put (cs := #[.slice Ao15 t228.length co15, .slice Ao14 t231.length co14, .slice Ao13 t237.length co13, .slice none 0 0]) ?_ 3 _ rfl; (with_reducible repeat (first | refine blk_drewN ?_ _ | refine blk_drew ?_ | refine blk_alloc ?_ _)); refine blk_put (cs := #[.slice Ao15 t228.length co15, .slice Ao14 t231.length co14, .slice none 0 0, .slice none 0 0]) ?_ 2 _ rfl; (with_reducible repeat (first | refine blk_drewN ?_ _ | refine blk_drew ?_ | refine blk_alloc ?_ _)); refine blk_put (cs := #[.slice Ao15 t228.length co15, .slice none 0 0, .slice none 0 0, .slice none 0 0]) ?_ 1 _ rfl; (with_reducible repeat (first | refine blk_drewN ?_ _ | refine blk_drew ?_ | refine blk_alloc ?_ _)); refine blk_put (cs := #[.slice none 0 0, .slice none 0 0, .slice none 0 0, .slice none 0 0]) ?_ 0 _ rfl; (with_reducible repeat (first | refine blk_drewN ?_ _ | refine blk_drew ?_ | refine blk_alloc ?_ _)); exact BK227.out) Try.underlying26 rfl (by kernel_rfl)) rfl ?_
  exact ⟨w8.heap.size, w10.heap.size, _, _, _, by first | rfl | (simp [errW_none, errW_some] <;> rfl) | (simp [*, errW_none, errW_some] <;> rfl), HZ10.out, by first | rfl | trivial, by (with_reducible repeat (first | apply Kd.S_alloc | apply Kd.S_drewN | apply Kd.S_drew)); exact Kd.S_mono (Kd.S_far (p := ⟨gb227, 3, none⟩) (Kd.S_far (p := ⟨gb227, 2, none⟩) (Kd.S_far (p := ⟨gb227, 1, none⟩) (Kd.S_far (p := ⟨gb227, 0, none⟩) (Kd.S_types HO230.out BK227.out (by decide)) (fun _ hk => hk.2) (.slice Ao15 t228.length co15)) (fun _ hk => hk.2) (.slice Ao14 t231.length co14)) (fun _ hk => hk.2) (.slice Ao13 t237.length co13)) (fun _ hk => hk.2) (.slice none 0 0)) (fun _ hk => hk.1.1.1), by (with_reducible repeat (first | apply Kd.S_alloc | apply Kd.S_drewN | apply Kd.S_drew)); exact Kd.S_mono (Kd.S_far (p := ⟨gb227, 3, none⟩) (Kd.S_far (p := ⟨gb227, 2, none⟩) (Kd.S_far (p := ⟨gb227, 1, none⟩) (Kd.S_far (p := ⟨gb227, 0, none⟩) (Kd.S_types HO233.out BK227.out (by decide)) (fun _ hk => hk.2) (.slice Ao15 t228.length co15)) (fun _ hk => hk.2) (.slice Ao14 t231.length co14)) (fun _ hk => hk.2) (.slice Ao13 t237.length co13)) (fun _ hk => hk.2) (.slice none 0 0)) (fun _ hk => ⟨hk.1.1.1.1, hk.1.1.2⟩), by (with_reducible repeat (first | apply Kd.S_alloc | apply Kd.S_drewN | apply Kd.S_drew)); exact Kd.S_mono (Kd.S_far (p := ⟨gb227, 3, none⟩) (Kd.S_far (p := ⟨gb227, 2, none⟩) (Kd.S_far (p := ⟨gb227, 1, none⟩) (Kd.S_far (p := ⟨gb227, 0, none⟩) (Kd.S_types HO239.out BK227.out (by decide)) (fun _ hk => hk.2) (.slice Ao15 t228.length co15)) (fun _ hk => hk.2) (.slice Ao14 t231.length co14)) (fun _ hk => hk.2) (.slice Ao13 t237.length co13)) (fun _ hk => hk.2) (.slice none 0 0)) (fun _ hk => hk.1.1.1), by repeat (first | (with_reducible first | exact HB.out | apply below_alloc | apply pw_below_drewN | apply below_drew1 | refine below_set ?_ GE227.out) | exact HB.out)⟩

end Go.Proofs.Ytdbnjjpkpaifcaa.PFnExactNewFlood
