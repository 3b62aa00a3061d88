-- Written by a program of this project (myprint.py, by way of the kit's printer). Not trusted: Lean checks it.
import Derived.Test.YtnemglgbginbdaaPFnExactLeadersByx0
import Derived.Test.YtnemglgbginbdaaPFnExactLeadersByx1
import Derived.Test.YtnemglgbginbdaaPFnExactLeadersByx2
import Derived.Test.YtnemglgbginbdaaPFnExactLeadersByx5
import Derived.Test.YtnemglgbginbdaaPFnExactLeadersByx6
import Derived.Test.YtnemglgbginbdaaPFnExactLeadersByx9
namespace Go.Proofs.Ytnemglgbginbdaa.PFnExactLeadersBy
open Go.RowKit Go.Proofs.YtnemglgbginbdaaW.PrintWords Go.Proofs.YtnemglgbginbdaaW.PrintLast Go.Proofs.YtnemglgbginbdaaW.PrintMore
attribute [local go_sem] max2_int min2_int max_two min_two max_three min_three max_four min_four   -- for this text's walks alone
set_option linter.unusedVariables false
set_option linter.unusedSimpArgs false

/-! ### laws_FnExactLeadersBy: function 13 (the way on which all tests hold) -/
def laws_FnExactLeadersBy.f (k : Nat) (l0 : List (S44)) (l1 : List (List Int)) : Option (Bool) := (laws_szBridgeS.f l0 1048576).bind fun s0 => (if s0 < 0 then some true else ((laws_szIntSS.f k l1 s0).bind fun s1 => (if s1 < 0 then some true else ((laws_toBridgeS.f k l0).bind fun x0 => ((laws_toIntSS.f k l1).bind fun x1 => ((spec_LeadersBy.f k x0 x1).bind fun r => ((impl_LeadersBy.f k x0 x1).bind fun q => ((laws_eqIntS.f k q.1 r.1).bind fun u0 => (if u0 = true then (if q.2 = r.2 then ((laws_eqBridgeS.f k x0 x0).bind fun t0 => (if t0 = true then ((laws_eqIntSS.f k x1 x1).bind fun t1 => (if t1 = true then ((laws_markBridgeS.f k x0 1).bind fun m0 => ((laws_markIntSS.f k x1 m0.1).bind fun m1 => (if 0 ≤ m1.1 then ((laws_markIntS.f k q.1 1).bind fun n0 => ((laws_heldIntS.f k n0.2 1).bind fun p0 => (if p0 = n0.1 then (if 0 ≤ p0 then (some true) else none) else none))) else none))) else none)) else none)) else none) else none)))))))))
set_option maxHeartbeats 8000000 in
set_option maxRecDepth 100000 in
theorem laws_FnExactLeadersBy.calls (k : Nat) (A0 : Option Addr) (c0 : Nat) (l0 : List (S44)) (A1 : Option Addr) (c1 : Nat) (l1 : List (List Int)) (r : Bool) (w : World) (hr0 : Kd.C k44 w A0 l0.length l0) (hc0 : l0.length ≤ c0) (hr1 : Kd.C (Kd.slice 3 (Kd.int .i64)) w A1 l1.length l1) (hc1 : l1.length ≤ c1) (h : laws_FnExactLeadersBy.f k l0 l1 = some r) :
    Calls Try.prog 13 #[.slice A0 l0.length c0, .slice A1 l1.length c1] w fun e w' => e = .returned (.bool r) ∧ Below w.heap.size w w' := by
  have H := h
  clear h
  unfold laws_FnExactLeadersBy.f at H
  have HR0 := Aside0.mk hr0
  have HC0 := Aside0.mk hc0
  clear hr0 hc0
  have HR1 := Aside0.mk hr1
  have HC1 := Aside0.mk hc1
  clear hr1 hc1
  have HB0 := Aside0.mk (Below.refl w.heap.size w)
  go_enter Try.func13, Try.ntmps13
  replace H := Option.bind_eq_some_iff.mp H
  obtain ⟨s0, B0_, H⟩ := H
  have BS0 := Aside0.mk B0_
  clear B0_
  by_cases cs0 : s0 < 0
  · rw [if_pos cs0] at H
    obtain rfl := Option.some.inj H
    have cb0 : decide (s0 < 0) = true := decide_eq_true cs0
    clear cs0
    go_wp2_with fail
    refine (laws_szBridgeS.calls _ _ l0 1048576 s0 w (Kd.C_below HR0.out HB0.out) (HC0.out) BS0.out).mono ?_
    rintro e w1_ ⟨rfl, hb0_⟩
    have hb_ := hb0_.below
    clear hb0_
    have HB1 := Aside0.mk (below_step HB0.out hb_)
    have hz1 : w.heap.size ≤ w1_.heap.size := hb_.size
    clear hb_
    go_wp2
    go_ret
    exact ⟨rfl, HB1.out⟩
  rw [if_neg cs0] at H
  have cb0 : decide (s0 < 0) = false := decide_eq_false cs0
  clear cs0
  go_wp2_with fail
  refine (laws_szBridgeS.calls _ _ l0 1048576 s0 w (Kd.C_below HR0.out HB0.out) (HC0.out) BS0.out).mono ?_
  rintro e w1_ ⟨rfl, hb0_⟩
  have hb_ := hb0_.below
  clear hb0_
  have HB1 := Aside0.mk (below_step HB0.out hb_)
  have hz1 : w.heap.size ≤ w1_.heap.size := hb_.size
  clear hb_
  replace H := Option.bind_eq_some_iff.mp H
  obtain ⟨s1, B1_, H⟩ := H
  have BS1 := Aside0.mk B1_
  clear B1_
  by_cases cs1 : s1 < 0
  · rw [if_pos cs1] at H
    obtain rfl := Option.some.inj H
    have cb1 : decide (s1 < 0) = true := decide_eq_true cs1
    clear cs1
    go_wp2_with fail
    refine (laws_szIntSS.calls k _ _ l1 s0 s1 w1_ (Kd.C_below HR1.out HB1.out) (HC1.out) BS1.out).mono ?_
    rintro e w2_ ⟨rfl, hb0_⟩
    have hb_ := hb0_.below
    clear hb0_
    have HB2 := Aside0.mk (below_step HB1.out hb_)
    have hz2 : w1_.heap.size ≤ w2_.heap.size := hb_.size
    clear hb_
    go_wp2
    go_ret
    exact ⟨rfl, HB2.out⟩
  rw [if_neg cs1] at H
  have cb1 : decide (s1 < 0) = false := decide_eq_false cs1
  clear cs1
  go_wp2_with fail
  refine (laws_szIntSS.calls k _ _ l1 s0 s1 w1_ (Kd.C_below HR1.out HB1.out) (HC1.out) BS1.out).mono ?_
  rintro e w2_ ⟨rfl, hb0_⟩
  have hb_ := hb0_.below
  clear hb0_
  have HB2 := Aside0.mk (below_step HB1.out hb_)
  have hz2 : w1_.heap.size ≤ w2_.heap.size := hb_.size
  clear hb_
  replace H := Option.bind_eq_some_iff.mp H
  obtain ⟨x0, B_BT0, H⟩ := H
  have BT0 := Aside0.mk B_BT0
  clear B_BT0
  replace H := Option.bind_eq_some_iff.mp H
  obtain ⟨x1, B_BT1, H⟩ := H
  have BT1 := Aside0.mk B_BT1
  clear B_BT1
  replace H := Option.bind_eq_some_iff.mp H
  obtain ⟨⟨r0, r1⟩, B_BP, H⟩ := H
  have BP := Aside0.mk B_BP
  clear B_BP
  replace H := Option.bind_eq_some_iff.mp H
  obtain ⟨⟨q0, q1⟩, B_BI, H⟩ := H
  have BI := Aside0.mk B_BI
  clear B_BI
  replace H := Option.bind_eq_some_iff.mp H
  obtain ⟨u0, B_BU0, H⟩ := H
  have BU0 := Aside0.mk B_BU0
  clear B_BU0
  by_cases cu0 : u0 = true
  case neg => rw [if_neg cu0] at H; exact absurd H (by simp)
  rw [if_pos cu0] at H
  subst cu0
  by_cases cq1 : q1 = r1
  case neg => rw [if_neg cq1] at H; exact absurd H (by simp)
  rw [if_pos cq1] at H
  replace cq1 : q1 = r1 := cq1
  subst cq1
  replace H := Option.bind_eq_some_iff.mp H
  obtain ⟨t0, B_BE0, H⟩ := H
  have BE0 := Aside0.mk B_BE0
  clear B_BE0
  by_cases ct0 : t0 = true
  case neg => rw [if_neg ct0] at H; exact absurd H (by simp)
  rw [if_pos ct0] at H
  subst ct0
  replace H := Option.bind_eq_some_iff.mp H
  obtain ⟨t1, B_BE1, H⟩ := H
  have BE1 := Aside0.mk B_BE1
  clear B_BE1
  by_cases ct1 : t1 = true
  case neg => rw [if_neg ct1] at H; exact absurd H (by simp)
  rw [if_pos ct1] at H
  subst ct1
  replace H := Option.bind_eq_some_iff.mp H
  obtain ⟨⟨m0, y0⟩, B_BM0, H⟩ := H
  have BM0 := Aside0.mk B_BM0
  clear B_BM0
  replace H := Option.bind_eq_some_iff.mp H
  obtain ⟨⟨m1, y1⟩, B_BM1, H⟩ := H
  have BM1 := Aside0.mk B_BM1
  clear B_BM1
  by_cases cm : 0 ≤ m1
  case neg => rw [if_neg cm] at H; exact absurd H (by simp)
  rw [if_pos cm] at H
  have cmb : decide (m1 < 0) = false := decide_eq_false (by omega)
  clear cm
  replace H := Option.bind_eq_some_iff.mp H
  obtain ⟨⟨n0, z0⟩, B_BN, H⟩ := H
  have BN := Aside0.mk B_BN
  clear B_BN
  replace H := Option.bind_eq_some_iff.mp H
  obtain ⟨p0, B_BH, H⟩ := H
  have BH := Aside0.mk B_BH
  clear B_BH
  by_cases cp : p0 = n0
  case neg => rw [if_neg cp] at H; exact absurd H (by simp)
  rw [if_pos cp] at H
  subst cp
  by_cases cn : 0 ≤ p0
  case neg => rw [if_neg cn] at H; exact absurd H (by simp)
  rw [if_pos cn] at H
  have cnb : decide (p0 < 0) = false := decide_eq_false (by omega)
  clear cn
  obtain rfl := Option.some.inj H
  clear H
  go_wp2_with fail
  refine (laws_toBridgeS.calls k _ _ l0 x0 w2_ (Kd.C_below HR0.out HB2.out) (HC0.out) BT0.out).mono ?_
  rintro e w3_ ⟨v3_0, rfl, ho0_, hb_⟩
  have HB3 := Aside0.mk (below_step HB2.out hb_)
  have hz3 : w2_.heap.size ≤ w3_.heap.size := hb_.size
  clear hb_
  have F0_n := Aside0.mk (Kd.R_lower (Kd.R_mono (Kd.R_bound ho0_) (fun k_ hk => (⟨hk.2.1, hk.2.2.1⟩ : w2_.heap.size ≤ k_ ∧ k_ < w3_.heap.size))) (show w.heap.size ≤ w2_.heap.size by omega))
  obtain ⟨A_F0, c_F0, ev_F0⟩ := Kd.R_slice F0_n.out
  subst ev_F0
  clear ho0_
  go_wp2_with fail
  refine (laws_toIntSS.calls k _ _ l1 x1 w3_ (Kd.C_below HR1.out HB3.out) (HC1.out) BT1.out).mono ?_
  rintro e w4_ ⟨v4_0, rfl, ho0_, hb_⟩
  have HB4 := Aside0.mk (below_step HB3.out hb_)
  have hz4 : w3_.heap.size ≤ w4_.heap.size := hb_.size
  have F0_4 := Aside0.mk (Kd.R_below F0_n.out hb_)
  clear F0_n
  clear hb_
  have F1_n := Aside0.mk (Kd.S_lower (Kd.S_mono (Kd.S_bound ho0_) (fun k_ hk => (⟨hk.2.1, hk.2.2.1⟩ : w3_.heap.size ≤ k_ ∧ k_ < w4_.heap.size))) (show w.heap.size ≤ w3_.heap.size by omega))
  obtain ⟨A_F1, c_F1, ev_F1⟩ := Kd.S_slice F1_n.out
  subst ev_F1
  clear ho0_
  go_wp2_with fail
  refine (spec_LeadersBy.calls k _ _ x0 _ _ x1 r0 q1 w4_ ((Kd.R_reads' F0_4.out).2.2) ((Kd.R_reads' F0_4.out).2.1) ((Kd.S_reads' F1_n.out).2.2) ((Kd.S_reads' F1_n.out).2.1) BP.out).mono ?_
  rintro e w5_ ⟨v5_0, rfl, ho0_, hb_⟩
  have HB5 := Aside0.mk (below_step HB4.out hb_)
  have hz5 : w4_.heap.size ≤ w5_.heap.size := hb_.size
  have F0_5 := Aside0.mk (Kd.R_below F0_4.out hb_)
  clear F0_4
  have F1_5 := Aside0.mk (Kd.S_below F1_n.out hb_)
  clear F1_n
  clear hb_
  have W0_n := Aside0.mk (Kd.R_lower (Kd.R_mono (Kd.R_bound ho0_) (fun k_ hk => (⟨hk.2.1, hk.2.2.1⟩ : w4_.heap.size ≤ k_ ∧ k_ < w5_.heap.size))) (show w.heap.size ≤ w4_.heap.size by omega))
  obtain ⟨A_W0, c_W0, ev_W0⟩ := Kd.R_slice W0_n.out
  subst ev_W0
  clear ho0_
  clear F0_5
  clear F1_5
  go_wp2_with fail
  refine (laws_toBridgeS.calls k _ _ l0 x0 w5_ (Kd.C_below HR0.out HB5.out) (HC0.out) BT0.out).mono ?_
  rintro e w6_ ⟨v6_0, rfl, ho0_, hb_⟩
  have HB6 := Aside0.mk (below_step HB5.out hb_)
  have hz6 : w5_.heap.size ≤ w6_.heap.size := hb_.size
  have W0_6 := Aside0.mk (Kd.R_below W0_n.out hb_)
  clear W0_n
  clear hb_
  have X0_n := Aside0.mk (Kd.R_lower (Kd.R_mono (Kd.R_bound ho0_) (fun k_ hk => (⟨hk.2.1, hk.2.2.1⟩ : w5_.heap.size ≤ k_ ∧ k_ < w6_.heap.size))) (show w.heap.size ≤ w5_.heap.size by omega))
  obtain ⟨A_X0, c_X0, ev_X0⟩ := Kd.R_slice X0_n.out
  subst ev_X0
  clear ho0_
  go_wp2_with fail
  refine (laws_toIntSS.calls k _ _ l1 x1 w6_ (Kd.C_below HR1.out HB6.out) (HC1.out) BT1.out).mono ?_
  rintro e w7_ ⟨v7_0, rfl, ho0_, hb_⟩
  have HB7 := Aside0.mk (below_step HB6.out hb_)
  have hz7 : w6_.heap.size ≤ w7_.heap.size := hb_.size
  have W0_7 := Aside0.mk (Kd.R_below W0_6.out hb_)
  clear W0_6
  have X0_7 := Aside0.mk (Kd.R_below X0_n.out hb_)
  clear X0_n
  clear hb_
  have X1_n := Aside0.mk (Kd.S_lower (Kd.S_mono (Kd.S_bound ho0_) (fun k_ hk => (⟨hk.2.1, hk.2.2.1⟩ : w6_.heap.size ≤ k_ ∧ k_ < w7_.heap.size))) (show w.heap.size ≤ w6_.heap.size by omega))
  obtain ⟨A_X1, c_X1, ev_X1⟩ := Kd.S_slice X1_n.out
  subst ev_X1
  clear ho0_
  go_wp2_with fail
  refine (impl_LeadersBy.calls k _ _ x0 _ _ x1 q0 q1 w7_ ((Kd.R_reads' X0_7.out).2.2) ((Kd.R_reads' X0_7.out).2.1) ((Kd.S_reads' X1_n.out).2.2) ((Kd.S_reads' X1_n.out).2.1) BI.out).mono ?_
  rintro e w8_ ⟨v8_0, rfl, ho0_, hb_⟩
  have HB8 := Aside0.mk (below_step HB7.out hb_)
  have hz8 : w7_.heap.size ≤ w8_.heap.size := hb_.size
  have W0_8 := Aside0.mk (Kd.R_below W0_7.out hb_)
  clear W0_7
  have X0_8 := Aside0.mk (Kd.R_below X0_7.out hb_)
  clear X0_7
  have X1_8 := Aside0.mk (Kd.S_below X1_n.out hb_)
  clear X1_n
  clear hb_
  have G0_n := Aside0.mk (Kd.R_lower (Kd.R_mono (Kd.R_bound ho0_) (fun k_ hk => (⟨hk.2.1, hk.2.2.1⟩ : w7_.heap.size ≤ k_ ∧ k_ < w8_.heap.size))) (show w.heap.size ≤ w7_.heap.size by omega))
  obtain ⟨A_G0, c_G0, ev_G0⟩ := Kd.R_slice G0_n.out
  subst ev_G0
  clear ho0_
  go_wp2_with fail
  refine (laws_eqIntS.calls k _ _ q0 _ _ r0 true w8_ ((Kd.R_reads' G0_n.out).2.2) ((Kd.R_reads' G0_n.out).2.1) ((Kd.R_reads' W0_8.out).2.2) ((Kd.R_reads' W0_8.out).2.1) BU0.out).mono ?_
  rintro e w9_ ⟨rfl, hb0_⟩
  have hb_ := hb0_.below
  clear hb0_
  have HB9 := Aside0.mk (below_step HB8.out hb_)
  have hz9 : w8_.heap.size ≤ w9_.heap.size := hb_.size
  have W0_9 := Aside0.mk (Kd.R_below W0_8.out hb_)
  clear W0_8
  have X0_9 := Aside0.mk (Kd.R_below X0_8.out hb_)
  clear X0_8
  have X1_9 := Aside0.mk (Kd.S_below X1_8.out hb_)
  clear X1_8
  have G0_9 := Aside0.mk (Kd.R_below G0_n.out hb_)
  clear G0_n
  clear hb_
  go_wp2_with fail
  refine (laws_toBridgeS.calls k _ _ l0 x0 w9_ (Kd.C_below HR0.out HB9.out) (HC0.out) BT0.out).mono ?_
  rintro e w10_ ⟨v10_0, rfl, ho0_, hb_⟩
  have HB10 := Aside0.mk (below_step HB9.out hb_)
  have hz10 : w9_.heap.size ≤ w10_.heap.size := hb_.size
  have W0_10 := Aside0.mk (Kd.R_below W0_9.out hb_)
  clear W0_9
  have X0_10 := Aside0.mk (Kd.R_below X0_9.out hb_)
  clear X0_9
  have X1_10 := Aside0.mk (Kd.S_below X1_9.out hb_)
  clear X1_9
  have G0_10 := Aside0.mk (Kd.R_below G0_9.out hb_)
  clear G0_9
  clear hb_
  have Y0_n := Aside0.mk (Kd.R_lower (Kd.R_mono (Kd.R_bound ho0_) (fun k_ hk => (⟨hk.2.1, hk.2.2.1⟩ : w9_.heap.size ≤ k_ ∧ k_ < w10_.heap.size))) (show w.heap.size ≤ w9_.heap.size by omega))
  obtain ⟨A_Y0, c_Y0, ev_Y0⟩ := Kd.R_slice Y0_n.out
  subst ev_Y0
  clear ho0_
  go_wp2_with fail
  refine (laws_eqBridgeS.calls k _ _ x0 _ _ x0 true w10_ ((Kd.R_reads' X0_10.out).2.2) ((Kd.R_reads' X0_10.out).2.1) ((Kd.R_reads' Y0_n.out).2.2) ((Kd.R_reads' Y0_n.out).2.1) BE0.out).mono ?_
  rintro e w11_ ⟨rfl, hb0_⟩
  have hb_ := hb0_
  clear hb0_
  have HB11 := Aside0.mk (below_step HB10.out hb_)
  have hz11 : w10_.heap.size ≤ w11_.heap.size := hb_.size
  have W0_11 := Aside0.mk (Kd.R_below W0_10.out hb_)
  clear W0_10
  have X0_11 := Aside0.mk (Kd.R_below X0_10.out hb_)
  clear X0_10
  have X1_11 := Aside0.mk (Kd.S_below X1_10.out hb_)
  clear X1_10
  have G0_11 := Aside0.mk (Kd.R_below G0_10.out hb_)
  clear G0_10
  have Y0_11 := Aside0.mk (Kd.R_below Y0_n.out hb_)
  clear Y0_n
  clear hb_
  clear Y0_11
  go_wp2_with fail
  refine (laws_toIntSS.calls k _ _ l1 x1 w11_ (Kd.C_below HR1.out HB11.out) (HC1.out) BT1.out).mono ?_
  rintro e w12_ ⟨v12_0, rfl, ho0_, hb_⟩
  have HB12 := Aside0.mk (below_step HB11.out hb_)
  have hz12 : w11_.heap.size ≤ w12_.heap.size := hb_.size
  have W0_12 := Aside0.mk (Kd.R_below W0_11.out hb_)
  clear W0_11
  have X0_12 := Aside0.mk (Kd.R_below X0_11.out hb_)
  clear X0_11
  have X1_12 := Aside0.mk (Kd.S_below X1_11.out hb_)
  clear X1_11
  have G0_12 := Aside0.mk (Kd.R_below G0_11.out hb_)
  clear G0_11
  clear hb_
  have Y1_n := Aside0.mk (Kd.S_lower (Kd.S_mono (Kd.S_bound ho0_) (fun k_ hk => (⟨hk.2.1, hk.2.2.1⟩ : w11_.heap.size ≤ k_ ∧ k_ < w12_.heap.size))) (show w.heap.size ≤ w11_.heap.size by omega))
  obtain ⟨A_Y1, c_Y1, ev_Y1⟩ := Kd.S_slice Y1_n.out
  subst ev_Y1
  clear ho0_
  go_wp2_with fail
  refine (laws_eqIntSS.calls k _ _ x1 _ _ x1 true w12_ ((Kd.S_reads' X1_12.out).2.2) ((Kd.S_reads' X1_12.out).2.1) ((Kd.S_reads' Y1_n.out).2.2) ((Kd.S_reads' Y1_n.out).2.1) BE1.out).mono ?_
  rintro e w13_ ⟨rfl, hb0_⟩
  have hb_ := hb0_.below
  clear hb0_
  have HB13 := Aside0.mk (below_step HB12.out hb_)
  have hz13 : w12_.heap.size ≤ w13_.heap.size := hb_.size
  have W0_13 := Aside0.mk (Kd.R_below W0_12.out hb_)
  clear W0_12
  have X0_13 := Aside0.mk (Kd.R_below X0_12.out hb_)
  clear X0_12
  have X1_13 := Aside0.mk (Kd.S_below X1_12.out hb_)
  clear X1_12
  have G0_13 := Aside0.mk (Kd.R_below G0_12.out hb_)
  clear G0_12
  have Y1_13 := Aside0.mk (Kd.S_below Y1_n.out hb_)
  clear Y1_n
  clear hb_
  clear Y1_13
  go_wp2_with fail
  refine (laws_markBridgeS.calls k (fun k_ => w5_.heap.size ≤ k_ ∧ k_ < w6_.heap.size) (.slice A_X0 x0.length c_X0) x0 1 m0 y0 w w13_ HB13.out X0_13.out BM0.out).mono ?_
  rintro e w14_ ⟨rfl, ho_, hb_, hk_⟩
  replace ho_ := Kd.R_mono (Kd.R_tight rfl ho_) (fun k_ hk => X0_13.out.1 k_ hk.symm)
  have HB14 := Aside0.mk hb_
  have hz14 : w13_.heap.size ≤ w14_.heap.size := hk_.1
  clear X0_13
  have W0_14 := Aside0.mk (Kd.R_kept W0_13.out hk_ (fun k_ h1_ h2_ => by omega))
  clear W0_13
  have X1_14 := Aside0.mk (Kd.S_kept X1_13.out hk_ (fun k_ h1_ h2_ => by omega))
  clear X1_13
  have G0_14 := Aside0.mk (Kd.R_kept G0_13.out hk_ (fun k_ h1_ h2_ => by omega))
  clear G0_13
  have X0_w := Aside0.mk ho_
  clear hb_ hk_ ho_
  have el_X0 : x0.length = y0.length := (Kd.R_reads' X0_w.out).1
  have EL_X0 := Aside0.mk el_X0
  clear el_X0
  clear X0_w
  go_wp2_with fail
  refine (laws_markIntSS.calls k (fun k_ => w6_.heap.size ≤ k_ ∧ k_ < w7_.heap.size) (.slice A_X1 x1.length c_X1) x1 m0 m1 y1 w w14_ HB14.out X1_14.out BM1.out).mono ?_
  rintro e w15_ ⟨rfl, ho_, hb_, hk_⟩
  have HB15 := Aside0.mk hb_
  have hz15 : w14_.heap.size ≤ w15_.heap.size := hk_.1
  clear X1_14
  have W0_15 := Aside0.mk (Kd.R_kept W0_14.out hk_ (fun k_ h1_ h2_ => by omega))
  clear W0_14
  have G0_15 := Aside0.mk (Kd.R_kept G0_14.out hk_ (fun k_ h1_ h2_ => by omega))
  clear G0_14
  have X1_w := Aside0.mk ho_
  clear hb_ hk_ ho_
  have el_X1 : x1.length = y1.length := (Kd.S_reads' X1_w.out).1
  have EL_X1 := Aside0.mk el_X1
  clear el_X1
  clear X1_w
  go_wp2_with fail
  refine (laws_eqIntS.calls k _ _ q0 _ _ r0 true w15_ ((Kd.R_reads' G0_15.out).2.2) ((Kd.R_reads' G0_15.out).2.1) ((Kd.R_reads' W0_15.out).2.2) ((Kd.R_reads' W0_15.out).2.1) BU0.out).mono ?_
  rintro e w16_ ⟨rfl, hb0_⟩
  have hb_ := hb0_.below
  clear hb0_
  have HB16 := Aside0.mk (below_step HB15.out hb_)
  have hz16 : w15_.heap.size ≤ w16_.heap.size := hb_.size
  have W0_16 := Aside0.mk (Kd.R_below W0_15.out hb_)
  clear W0_15
  have G0_16 := Aside0.mk (Kd.R_below G0_15.out hb_)
  clear G0_15
  clear hb_
  go_wp2_with fail
  refine (laws_markIntS.calls k (fun k_ => w7_.heap.size ≤ k_ ∧ k_ < w8_.heap.size) (.slice A_G0 q0.length c_G0) q0 1 p0 z0 w w16_ HB16.out G0_16.out BN.out).mono ?_
  rintro e w17_ ⟨rfl, ho_, hb_, hk_⟩
  replace ho_ := Kd.R_mono (Kd.R_tight rfl ho_) (fun k_ hk => G0_16.out.1 k_ hk.symm)
  have HB17 := Aside0.mk hb_
  have hz17 : w16_.heap.size ≤ w17_.heap.size := hk_.1
  clear G0_16
  have W0_17 := Aside0.mk (Kd.R_kept W0_16.out hk_ (fun k_ h1_ h2_ => by omega))
  clear W0_16
  have G0_w := Aside0.mk ho_
  clear hb_ hk_ ho_
  have el_G0 : q0.length = z0.length := (Kd.R_reads' G0_w.out).1
  have EL_G0 := Aside0.mk el_G0
  clear el_G0
  have hx_ := (Kd.R_reads' G0_w.out)
  go_wp2_with fail
  (try rw [EL_G0.out])
  rw [EL_G0.out] at hx_
  refine (laws_heldIntS.calls k _ _ z0 1 p0 w17_ hx_.2.2 hx_.2.1 BH.out).mono ?_
  clear hx_
  rintro e w18_ ⟨rfl, hb0_⟩
  have hb_ := hb0_.below
  clear hb0_
  have HB18 := Aside0.mk (below_step HB17.out hb_)
  have hz18 : w17_.heap.size ≤ w18_.heap.size := hb_.size
  have W0_18 := Aside0.mk (Kd.R_below W0_17.out hb_)
  clear W0_17
  have G0_18 := Aside0.mk (Kd.R_below G0_w.out hb_)
  clear G0_w
  clear hb_
  go_wp2_with fail
  refine (laws_toBridgeS.calls k _ _ l0 x0 w18_ (Kd.C_below HR0.out HB18.out) (HC0.out) BT0.out).mono ?_
  rintro e w19_ ⟨v19_0, rfl, ho0_, hb_⟩
  have HB19 := Aside0.mk (below_step HB18.out hb_)
  have hz19 : w18_.heap.size ≤ w19_.heap.size := hb_.size
  have W0_19 := Aside0.mk (Kd.R_below W0_18.out hb_)
  clear W0_18
  have G0_19 := Aside0.mk (Kd.R_below G0_18.out hb_)
  clear G0_18
  clear hb_
  have Z0_n := Aside0.mk (Kd.R_lower (Kd.R_mono (Kd.R_bound ho0_) (fun k_ hk => (⟨hk.2.1, hk.2.2.1⟩ : w18_.heap.size ≤ k_ ∧ k_ < w19_.heap.size))) (show w.heap.size ≤ w18_.heap.size by omega))
  obtain ⟨A_Z0, c_Z0, ev_Z0⟩ := Kd.R_slice Z0_n.out
  subst ev_Z0
  clear ho0_
  go_wp2_with fail
  refine (laws_toIntSS.calls k _ _ l1 x1 w19_ (Kd.C_below HR1.out HB19.out) (HC1.out) BT1.out).mono ?_
  rintro e w20_ ⟨v20_0, rfl, ho0_, hb_⟩
  have HB20 := Aside0.mk (below_step HB19.out hb_)
  have hz20 : w19_.heap.size ≤ w20_.heap.size := hb_.size
  have W0_20 := Aside0.mk (Kd.R_below W0_19.out hb_)
  clear W0_19
  have G0_20 := Aside0.mk (Kd.R_below G0_19.out hb_)
  clear G0_19
  have Z0_20 := Aside0.mk (Kd.R_below Z0_n.out hb_)
  clear Z0_n
  clear hb_
  have Z1_n := Aside0.mk (Kd.S_lower (Kd.S_mono (Kd.S_bound ho0_) (fun k_ hk => (⟨hk.2.1, hk.2.2.1⟩ : w19_.heap.size ≤ k_ ∧ k_ < w20_.heap.size))) (show w.heap.size ≤ w19_.heap.size by omega))
  obtain ⟨A_Z1, c_Z1, ev_Z1⟩ := Kd.S_slice Z1_n.out
  subst ev_Z1
  clear ho0_
  go_wp2_with fail
  refine (impl_LeadersBy.calls k _ _ x0 _ _ x1 q0 q1 w20_ ((Kd.R_reads' Z0_20.out).2.2) ((Kd.R_reads' Z0_20.out).2.1) ((Kd.S_reads' Z1_n.out).2.2) ((Kd.S_reads' Z1_n.out).2.1) BI.out).mono ?_
  rintro e w21_ ⟨v21_0, rfl, ho0_, hb_⟩
  have HB21 := Aside0.mk (below_step HB20.out hb_)
  have hz21 : w20_.heap.size ≤ w21_.heap.size := hb_.size
  have W0_21 := Aside0.mk (Kd.R_below W0_20.out hb_)
  clear W0_20
  have G0_21 := Aside0.mk (Kd.R_below G0_20.out hb_)
  clear G0_20
  have Z0_21 := Aside0.mk (Kd.R_below Z0_20.out hb_)
  clear Z0_20
  have Z1_21 := Aside0.mk (Kd.S_below Z1_n.out hb_)
  clear Z1_n
  clear hb_
  have H0_n := Aside0.mk (Kd.R_lower (Kd.R_mono (Kd.R_bound ho0_) (fun k_ hk => (⟨hk.2.1, hk.2.2.1⟩ : w20_.heap.size ≤ k_ ∧ k_ < w21_.heap.size))) (show w.heap.size ≤ w20_.heap.size by omega))
  obtain ⟨A_H0, c_H0, ev_H0⟩ := Kd.R_slice H0_n.out
  subst ev_H0
  clear ho0_
  go_wp2_with fail
  refine (laws_eqIntS.calls k _ _ q0 _ _ r0 true w21_ ((Kd.R_reads' H0_n.out).2.2) ((Kd.R_reads' H0_n.out).2.1) ((Kd.R_reads' W0_21.out).2.2) ((Kd.R_reads' W0_21.out).2.1) BU0.out).mono ?_
  rintro e w22_ ⟨rfl, hb0_⟩
  have hb_ := hb0_.below
  clear hb0_
  have HB22 := Aside0.mk (below_step HB21.out hb_)
  have hz22 : w21_.heap.size ≤ w22_.heap.size := hb_.size
  have W0_22 := Aside0.mk (Kd.R_below W0_21.out hb_)
  clear W0_21
  have G0_22 := Aside0.mk (Kd.R_below G0_21.out hb_)
  clear G0_21
  have Z0_22 := Aside0.mk (Kd.R_below Z0_21.out hb_)
  clear Z0_21
  have Z1_22 := Aside0.mk (Kd.S_below Z1_21.out hb_)
  clear Z1_21
  have H0_22 := Aside0.mk (Kd.R_below H0_n.out hb_)
  clear H0_n
  clear hb_
  have hx_ := (Kd.R_reads' G0_22.out)
  go_wp2_with fail
  (try rw [EL_G0.out])
  rw [EL_G0.out] at hx_
  refine (laws_heldIntS.calls k _ _ z0 1 p0 w22_ hx_.2.2 hx_.2.1 BH.out).mono ?_
  clear hx_
  rintro e w23_ ⟨rfl, hb0_⟩
  have hb_ := hb0_.below
  clear hb0_
  have HB23 := Aside0.mk (below_step HB22.out hb_)
  have hz23 : w22_.heap.size ≤ w23_.heap.size := hb_.size
  have W0_23 := Aside0.mk (Kd.R_below W0_22.out hb_)
  clear W0_22
  have G0_23 := Aside0.mk (Kd.R_below G0_22.out hb_)
  clear G0_22
  have Z0_23 := Aside0.mk (Kd.R_below Z0_22.out hb_)
  clear Z0_22
  have Z1_23 := Aside0.mk (Kd.S_below Z1_22.out hb_)
  clear Z1_22
  have H0_23 := Aside0.mk (Kd.R_below H0_22.out hb_)
  clear H0_22
  clear hb_
  go_wp2
  go_ret
  exact ⟨rfl, HB23.out⟩

end Go.Proofs.Ytnemglgbginbdaa.PFnExactLeadersBy
