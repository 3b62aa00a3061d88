-- Written by a program of this project (myprint.py, by way of the kit's printer). Not trusted: Lean checks it.
import Derived.Test.YtdbnjjpkpaifcaaPFnExactNewFloodx0
import Derived.Test.YtdbnjjpkpaifcaaPFnExactNewFloodx1
import Derived.Test.YtdbnjjpkpaifcaaPFnExactNewFloodx3
import Derived.Test.YtdbnjjpkpaifcaaPFnExactNewFloodx4
import Derived.Test.YtdbnjjpkpaifcaaPFnExactNewFloodx6
import Derived.Test.YtdbnjjpkpaifcaaPFnExactNewFloodx7
import Derived.Test.YtdbnjjpkpaifcaaPFnExactNewFloodx8
namespace Go.Proofs.Ytdbnjjpkpaifcaa.PFnExactNewFlood
open Go.RowKit Go.Proofs.YtdbnjjpkpaifcaaW.PrintWords Go.Proofs.YtdbnjjpkpaifcaaW.PrintLast Go.Proofs.YtdbnjjpkpaifcaaW.PrintMore
attribute [local go_sem] max2_int min2_int max_two min_two max_three min_three max_four min_four   -- for this text's walks alone
set_option linter.unusedVariables false
set_option linter.unusedSimpArgs false

/-! ### laws_FnExactNewFlood: function 3 (the way on which all tests hold) -/
def laws_FnExactNewFlood.f (k : Nat) (a0 : Int) (l1 : List (List Int)) : Option (Bool) := (laws_szIntSS.f k l1 1048576).bind fun s1 => (if s1 < 0 then some true else ((laws_toIntSS.f k l1).bind fun x1 => ((spec_NewFlood.f k a0 x1).bind fun r => ((impl_NewFlood.f k a0 x1).bind fun q => ((laws_eqFlood.f k q.1 q.2.1 q.2.2.1 q.2.2.2.1 r.1 r.2.1 r.2.2.1 r.2.2.2.1).bind fun u => (if u = true then (if q.2.2.2.2 = r.2.2.2.2 then ((laws_eqIntSS.f k x1 x1).bind fun t1 => (if t1 = true then ((laws_markIntSS.f k x1 1).bind fun m1 => (if 0 ≤ m1.1 then ((laws_markFlood.f k q.1 q.2.1 q.2.2.1 1).bind fun n => ((laws_heldFlood.f k n.2.1 n.2.2.1 n.2.2.2 [] 1).bind fun p => (if p = n.1 then (if 0 ≤ p then (some true) else none) else none))) else none)) else none)) else none) else none))))))
set_option maxHeartbeats 8000000 in
set_option maxRecDepth 100000 in
theorem laws_FnExactNewFlood.calls (k : Nat) (a0 : Int) (A1 : Option Addr) (c1 : Nat) (l1 : List (List Int)) (r : Bool) (w : World) (hr1 : Kd.C (Kd.slice 3 (Kd.int .i64)) w A1 l1.length l1) (hc1 : l1.length ≤ c1) (h : laws_FnExactNewFlood.f k a0 l1 = some r) :
    Calls Try.prog 3 #[.int .i64 a0, .slice A1 l1.length c1] w fun e w' => e = .returned (.bool r) ∧ Below w.heap.size w w' := by
  have H := h
  clear h
  unfold laws_FnExactNewFlood.f at H
  have HR1 := Aside0.mk hr1
  have HC1 := Aside0.mk hc1
  clear hr1 hc1
  have hu26 := Try.underlying26
  have HB0 := Aside0.mk (Below.refl w.heap.size w)
  go_enter Try.func3, Try.ntmps3
  replace H := Option.bind_eq_some_iff.mp H
  obtain ⟨s1, B_BS, H⟩ := H
  have BS := Aside0.mk B_BS
  clear B_BS
  by_cases cs1 : s1 < 0
  · rw [if_pos cs1] at H
    obtain rfl := Option.some.inj H
    have cb1 : decide (s1 < 0) = true := decide_eq_true cs1
    clear cs1
    go_wp2_with fail
    refine (laws_szIntSS.calls k _ _ l1 1048576 s1 w (Kd.C_below HR1.out HB0.out) HC1.out BS.out).mono ?_
    rintro e w1_ ⟨rfl, hb0_⟩
    have hb_ := hb0_.below
    clear hb0_
    have HB1 := Aside0.mk (below_step HB0.out hb_)
    have hz1 : w.heap.size ≤ w1_.heap.size := hb_.size
    clear hb_
    go_wp2
    go_ret
    exact ⟨rfl, HB1.out⟩
  rw [if_neg cs1] at H
  have cb1 : decide (s1 < 0) = false := decide_eq_false cs1
  clear cs1
  go_wp2_with fail
  refine (laws_szIntSS.calls k _ _ l1 1048576 s1 w (Kd.C_below HR1.out HB0.out) HC1.out BS.out).mono ?_
  rintro e w1_ ⟨rfl, hb0_⟩
  have hb_ := hb0_.below
  clear hb0_
  have HB1 := Aside0.mk (below_step HB0.out hb_)
  have hz1 : w.heap.size ≤ w1_.heap.size := hb_.size
  clear hb_
  replace H := Option.bind_eq_some_iff.mp H
  obtain ⟨x1, B_BT, H⟩ := H
  have BT := Aside0.mk B_BT
  clear B_BT
  replace H := Option.bind_eq_some_iff.mp H
  obtain ⟨⟨r0, r1, r2, r3, r4⟩, B_BP, H⟩ := H
  have BP := Aside0.mk B_BP
  clear B_BP
  replace H := Option.bind_eq_some_iff.mp H
  obtain ⟨⟨q0, q1, q2, q3, q4⟩, B_BI, H⟩ := H
  have BI := Aside0.mk B_BI
  clear B_BI
  replace H := Option.bind_eq_some_iff.mp H
  obtain ⟨u, B_BU, H⟩ := H
  have BU := Aside0.mk B_BU
  clear B_BU
  by_cases cu : u = true
  case neg => rw [if_neg cu] at H; exact absurd H (by simp)
  rw [if_pos cu] at H
  subst cu
  by_cases cq : q4 = r4
  case neg => rw [if_neg cq] at H; exact absurd H (by simp)
  rw [if_pos cq] at H
  replace cq : q4 = r4 := cq
  subst cq
  replace H := Option.bind_eq_some_iff.mp H
  obtain ⟨t1, B_BE, H⟩ := H
  have BE := Aside0.mk B_BE
  clear B_BE
  by_cases ct : t1 = true
  case neg => rw [if_neg ct] at H; exact absurd H (by simp)
  rw [if_pos ct] at H
  subst ct
  replace H := Option.bind_eq_some_iff.mp H
  obtain ⟨⟨m1, y1⟩, B_BM, H⟩ := H
  have BM := Aside0.mk B_BM
  clear B_BM
  by_cases cm : 0 ≤ m1
  case neg => rw [if_neg cm] at H; exact absurd H (by simp)
  rw [if_pos cm] at H
  have cmb : decide (m1 < 0) = false := decide_eq_false (by omega)
  clear cm
  replace H := Option.bind_eq_some_iff.mp H
  obtain ⟨⟨n0, z0, z1, z2⟩, B_BN, H⟩ := H
  have BN := Aside0.mk B_BN
  clear B_BN
  replace H := Option.bind_eq_some_iff.mp H
  obtain ⟨p0, B_BH, H⟩ := H
  have BH := Aside0.mk B_BH
  clear B_BH
  by_cases cp : p0 = n0
  case neg => rw [if_neg cp] at H; exact absurd H (by simp)
  rw [if_pos cp] at H
  replace cp : p0 = n0 := cp
  subst cp
  by_cases cn : 0 ≤ p0
  case neg => rw [if_neg cn] at H; exact absurd H (by simp)
  rw [if_pos cn] at H
  have cnb : decide (p0 < 0) = false := decide_eq_false (by omega)
  clear cn
  obtain rfl := Option.some.inj H
  clear H
  go_wp2_with fail
  refine (laws_toIntSS.calls k _ _ l1 x1 w1_ (Kd.C_below HR1.out HB1.out) HC1.out BT.out).mono ?_
  rintro e w2_ ⟨v_, rfl, ho_, hb_⟩
  have HB2 := Aside0.mk (below_step HB1.out hb_)
  have hz2 : w1_.heap.size ≤ w2_.heap.size := hb_.size
  clear hb_
  have F_n := Aside0.mk (Kd.S_lower (Kd.S_mono (Kd.S_bound ho_) (fun k_ hk => (⟨hk.2.1, hk.2.2.1⟩ : w1_.heap.size ≤ k_ ∧ k_ < w2_.heap.size))) (show w.heap.size ≤ w1_.heap.size by omega))
  clear ho_
  obtain ⟨A_F, c_F, ev_F⟩ := Kd.S_slice F_n.out
  subst ev_F
  go_wp2_with fail
  refine (spec_NewFlood.calls k a0 _ _ x1 r0 r1 r2 r3 q4 w2_ ((Kd.S_reads' F_n.out).2.2) ((Kd.S_reads' F_n.out).2.1) BP.out).mono ?_
  rintro e w3_ ⟨v0_, v1_, v2_, v3_, rfl, ho0_, ho1_, ho2_, ho3_, hb_⟩
  have HB3 := Aside0.mk (below_step HB2.out hb_)
  have hz3 : w2_.heap.size ≤ w3_.heap.size := hb_.size
  have F_3 := Aside0.mk (Kd.S_below F_n.out hb_)
  clear F_n
  clear hb_
  have W0_n := Aside0.mk (Kd.S_lower (Kd.S_mono (Kd.S_bound ho0_) (fun k_ hk => (⟨hk.2.1, hk.2.2.1⟩ : w2_.heap.size ≤ k_ ∧ k_ < w3_.heap.size))) (show w.heap.size ≤ w2_.heap.size by omega))
  clear ho0_
  obtain ⟨A_W0, c_W0, ev_W0⟩ := Kd.S_slice W0_n.out
  subst ev_W0
  have W1_n := Aside0.mk (Kd.S_lower (Kd.S_mono (Kd.S_bound ho1_) (fun k_ hk => (⟨hk.2.1, hk.2.2.1⟩ : w2_.heap.size ≤ k_ ∧ k_ < w3_.heap.size))) (show w.heap.size ≤ w2_.heap.size by omega))
  clear ho1_
  obtain ⟨A_W1, c_W1, ev_W1⟩ := Kd.S_slice W1_n.out
  subst ev_W1
  have W2_n := Aside0.mk (Kd.S_lower (Kd.S_mono (Kd.S_bound ho2_) (fun k_ hk => (⟨hk.2.1, hk.2.2.1⟩ : w2_.heap.size ≤ k_ ∧ k_ < w3_.heap.size))) (show w.heap.size ≤ w2_.heap.size by omega))
  clear ho2_
  obtain ⟨A_W2, c_W2, ev_W2⟩ := Kd.S_slice W2_n.out
  subst ev_W2
  have W3_n := Aside0.mk (Kd.R_lower (Kd.R_mono (Kd.R_bound ho3_) (fun k_ hk => (⟨hk.2.1, hk.2.2.1⟩ : w2_.heap.size ≤ k_ ∧ k_ < w3_.heap.size))) (show w.heap.size ≤ w2_.heap.size by omega))
  clear ho3_
  obtain ⟨A_W3, c_W3, ev_W3⟩ := Kd.R_slice W3_n.out
  subst ev_W3
  clear F_3
  go_upto_region 6 with fail
  have hb_ := below_alloc (Below.refl w3_.heap.size w3_) (Obj.cells #[.slice A_W0 r0.length c_W0, .slice A_W1 r1.length c_W1, .slice A_W2 r2.length c_W2, .slice A_W3 r3.length c_W3] 26 (0, 0))
  have hblk_ := blk_new w3_ (Obj.cells #[.slice A_W0 r0.length c_W0, .slice A_W1 r1.length c_W1, .slice A_W2 r2.length c_W2, .slice A_W3 r3.length c_W3] 26 (0, 0))
  generalize w3_.alloc (Obj.cells #[.slice A_W0 r0.length c_W0, .slice A_W1 r1.length c_W1, .slice A_W2 r2.length c_W2, .slice A_W3 r3.length c_W3] 26 (0, 0)) = w4_ at hb_ hblk_ ⊢
  have BKW4 := Aside0.mk hblk_
  have hs4 := blk_lt hblk_
  clear hblk_
  have HB4 := Aside0.mk (below_step HB3.out hb_)
  have hz4 : w3_.heap.size ≤ w4_.heap.size := hb_.size
  have W0_4 := Aside0.mk (Kd.S_below W0_n.out hb_)
  clear W0_n
  have W1_4 := Aside0.mk (Kd.S_below W1_n.out hb_)
  clear W1_n
  have W2_4 := Aside0.mk (Kd.S_below W2_n.out hb_)
  clear W2_n
  have W3_4 := Aside0.mk (Kd.R_below W3_n.out hb_)
  clear W3_n
  clear hb_
  have hcW0_ : w4_.cell? ⟨w3_.heap.size, 0, none⟩ = some (.slice A_W0 r0.length c_W0) := (blk_cell BKW4.out 0).trans rfl
  have hfW0_ := blk_frozen BKW4.out 0
  have hcW1_ : w4_.cell? ⟨w3_.heap.size, 1, none⟩ = some (.slice A_W1 r1.length c_W1) := (blk_cell BKW4.out 1).trans rfl
  have hfW1_ := blk_frozen BKW4.out 1
  have hcW2_ : w4_.cell? ⟨w3_.heap.size, 2, none⟩ = some (.slice A_W2 r2.length c_W2) := (blk_cell BKW4.out 2).trans rfl
  have hfW2_ := blk_frozen BKW4.out 2
  have hcW3_ : w4_.cell? ⟨w3_.heap.size, 3, none⟩ = some (.slice A_W3 r3.length c_W3) := (blk_cell BKW4.out 3).trans rfl
  have hfW3_ := blk_frozen BKW4.out 3
  go_wp2_with fail
  clear hcW0_ hfW0_ hcW1_ hfW1_ hcW2_ hfW2_ hcW3_ hfW3_
  refine (laws_toIntSS.calls k _ _ l1 x1 w4_ (Kd.C_below HR1.out HB4.out) HC1.out BT.out).mono ?_
  rintro e w5_ ⟨v_, rfl, ho_, hb_⟩
  have HB5 := Aside0.mk (below_step HB4.out hb_)
  have hz5 : w4_.heap.size ≤ w5_.heap.size := hb_.size
  have BKW5 := Aside0.mk (blk_below BKW4.out hb_)
  clear BKW4
  have W0_5 := Aside0.mk (Kd.S_below W0_4.out hb_)
  clear W0_4
  have W1_5 := Aside0.mk (Kd.S_below W1_4.out hb_)
  clear W1_4
  have W2_5 := Aside0.mk (Kd.S_below W2_4.out hb_)
  clear W2_4
  have W3_5 := Aside0.mk (Kd.R_below W3_4.out hb_)
  clear W3_4
  clear hb_
  have X_n := Aside0.mk (Kd.S_lower (Kd.S_mono (Kd.S_bound ho_) (fun k_ hk => (⟨hk.2.1, hk.2.2.1⟩ : w4_.heap.size ≤ k_ ∧ k_ < w5_.heap.size))) (show w.heap.size ≤ w4_.heap.size by omega))
  clear ho_
  obtain ⟨A_X, c_X, ev_X⟩ := Kd.S_slice X_n.out
  subst ev_X
  have hcW0_ : w5_.cell? ⟨w3_.heap.size, 0, none⟩ = some (.slice A_W0 r0.length c_W0) := (blk_cell BKW5.out 0).trans rfl
  have hfW0_ := blk_frozen BKW5.out 0
  have hcW1_ : w5_.cell? ⟨w3_.heap.size, 1, none⟩ = some (.slice A_W1 r1.length c_W1) := (blk_cell BKW5.out 1).trans rfl
  have hfW1_ := blk_frozen BKW5.out 1
  have hcW2_ : w5_.cell? ⟨w3_.heap.size, 2, none⟩ = some (.slice A_W2 r2.length c_W2) := (blk_cell BKW5.out 2).trans rfl
  have hfW2_ := blk_frozen BKW5.out 2
  have hcW3_ : w5_.cell? ⟨w3_.heap.size, 3, none⟩ = some (.slice A_W3 r3.length c_W3) := (blk_cell BKW5.out 3).trans rfl
  have hfW3_ := blk_frozen BKW5.out 3
  go_wp2_with fail
  clear hcW0_ hfW0_ hcW1_ hfW1_ hcW2_ hfW2_ hcW3_ hfW3_
  refine (impl_NewFlood.callsI k a0 _ _ x1 q0 q1 q2 q3 q4 w5_ ((Kd.S_reads' X_n.out).2.2) ((Kd.S_reads' X_n.out).2.1) BI.out).mono ?_
  rintro e w6_ ⟨m1_, m2_, v0_, v1_, v2_, rfl, hm_, he_, ho0_, ho1_, ho2_, hb_⟩
  have HB6 := Aside0.mk (below_step HB5.out hb_)
  have hz6 : w5_.heap.size ≤ w6_.heap.size := hb_.size
  have BKW6 := Aside0.mk (blk_below BKW5.out hb_)
  clear BKW5
  have W0_6 := Aside0.mk (Kd.S_below W0_5.out hb_)
  clear W0_5
  have W1_6 := Aside0.mk (Kd.S_below W1_5.out hb_)
  clear W1_5
  have W2_6 := Aside0.mk (Kd.S_below W2_5.out hb_)
  clear W2_5
  have W3_6 := Aside0.mk (Kd.R_below W3_5.out hb_)
  clear W3_5
  have X_6 := Aside0.mk (Kd.S_below X_n.out hb_)
  clear X_n
  clear hb_
  have G0_n := Aside0.mk (Kd.S_lower (Kd.S_mono (Kd.S_bound ho0_) (fun k_ hk => (⟨hk.2.1, hk.2.2.1, hk.1⟩ : w5_.heap.size ≤ k_ ∧ k_ < w6_.heap.size ∧ (k_ < m1_)))) (show w.heap.size ≤ w5_.heap.size by omega))
  clear ho0_
  obtain ⟨A_G0, c_G0, ev_G0⟩ := Kd.S_slice G0_n.out
  subst ev_G0
  have G1_n := Aside0.mk (Kd.S_lower (Kd.S_mono (Kd.S_bound ho1_) (fun k_ hk => (⟨hk.2.1, hk.2.2.1, hk.1⟩ : w5_.heap.size ≤ k_ ∧ k_ < w6_.heap.size ∧ (m1_ ≤ k_ ∧ k_ < m2_)))) (show w.heap.size ≤ w5_.heap.size by omega))
  clear ho1_
  obtain ⟨A_G1, c_G1, ev_G1⟩ := Kd.S_slice G1_n.out
  subst ev_G1
  have G2_n := Aside0.mk (Kd.S_lower (Kd.S_mono (Kd.S_bound ho2_) (fun k_ hk => (⟨hk.2.1, hk.2.2.1, hk.1⟩ : w5_.heap.size ≤ k_ ∧ k_ < w6_.heap.size ∧ (m2_ ≤ k_)))) (show w.heap.size ≤ w5_.heap.size by omega))
  clear ho2_
  obtain ⟨A_G2, c_G2, ev_G2⟩ := Kd.S_slice G2_n.out
  subst ev_G2
  subst he_
  have HM := Aside0.mk hm_
  clear hm_
  have hcW0_ : w6_.cell? ⟨w3_.heap.size, 0, none⟩ = some (.slice A_W0 r0.length c_W0) := (blk_cell BKW6.out 0).trans rfl
  have hfW0_ := blk_frozen BKW6.out 0
  have hcW1_ : w6_.cell? ⟨w3_.heap.size, 1, none⟩ = some (.slice A_W1 r1.length c_W1) := (blk_cell BKW6.out 1).trans rfl
  have hfW1_ := blk_frozen BKW6.out 1
  have hcW2_ : w6_.cell? ⟨w3_.heap.size, 2, none⟩ = some (.slice A_W2 r2.length c_W2) := (blk_cell BKW6.out 2).trans rfl
  have hfW2_ := blk_frozen BKW6.out 2
  have hcW3_ : w6_.cell? ⟨w3_.heap.size, 3, none⟩ = some (.slice A_W3 r3.length c_W3) := (blk_cell BKW6.out 3).trans rfl
  have hfW3_ := blk_frozen BKW6.out 3
  go_upto_region 8 with fail
  clear hcW0_ hfW0_ hcW1_ hfW1_ hcW2_ hfW2_ hcW3_ hfW3_
  have hb_ := below_alloc (Below.refl w6_.heap.size w6_) (Obj.cells #[.slice A_G0 q0.length c_G0, .slice A_G1 q1.length c_G1, .slice A_G2 q2.length c_G2, .slice none 0 0] 26 (0, 0))
  have hblk_ := blk_new w6_ (Obj.cells #[.slice A_G0 q0.length c_G0, .slice A_G1 q1.length c_G1, .slice A_G2 q2.length c_G2, .slice none 0 0] 26 (0, 0))
  generalize w6_.alloc (Obj.cells #[.slice A_G0 q0.length c_G0, .slice A_G1 q1.length c_G1, .slice A_G2 q2.length c_G2, .slice none 0 0] 26 (0, 0)) = w7_ at hb_ hblk_ ⊢
  have BKG7 := Aside0.mk hblk_
  have hs7 := blk_lt hblk_
  clear hblk_
  have HB7 := Aside0.mk (below_step HB6.out hb_)
  have hz7 : w6_.heap.size ≤ w7_.heap.size := hb_.size
  have BKW7 := Aside0.mk (blk_below BKW6.out hb_)
  clear BKW6
  have W0_7 := Aside0.mk (Kd.S_below W0_6.out hb_)
  clear W0_6
  have W1_7 := Aside0.mk (Kd.S_below W1_6.out hb_)
  clear W1_6
  have W2_7 := Aside0.mk (Kd.S_below W2_6.out hb_)
  clear W2_6
  have W3_7 := Aside0.mk (Kd.R_below W3_6.out hb_)
  clear W3_6
  have X_7 := Aside0.mk (Kd.S_below X_6.out hb_)
  clear X_6
  have G0_7 := Aside0.mk (Kd.S_below G0_n.out hb_)
  clear G0_n
  have G1_7 := Aside0.mk (Kd.S_below G1_n.out hb_)
  clear G1_n
  have G2_7 := Aside0.mk (Kd.S_below G2_n.out hb_)
  clear G2_n
  clear hb_
  have hcW0_ : w7_.cell? ⟨w3_.heap.size, 0, none⟩ = some (.slice A_W0 r0.length c_W0) := (blk_cell BKW7.out 0).trans rfl
  have hfW0_ := blk_frozen BKW7.out 0
  have hcW1_ : w7_.cell? ⟨w3_.heap.size, 1, none⟩ = some (.slice A_W1 r1.length c_W1) := (blk_cell BKW7.out 1).trans rfl
  have hfW1_ := blk_frozen BKW7.out 1
  have hcW2_ : w7_.cell? ⟨w3_.heap.size, 2, none⟩ = some (.slice A_W2 r2.length c_W2) := (blk_cell BKW7.out 2).trans rfl
  have hfW2_ := blk_frozen BKW7.out 2
  have hcW3_ : w7_.cell? ⟨w3_.heap.size, 3, none⟩ = some (.slice A_W3 r3.length c_W3) := (blk_cell BKW7.out 3).trans rfl
  have hfW3_ := blk_frozen BKW7.out 3
  have hcG0_ : w7_.cell? ⟨w6_.heap.size, 0, none⟩ = some (.slice A_G0 q0.length c_G0) := (blk_cell BKG7.out 0).trans rfl
  have hfG0_ := blk_frozen BKG7.out 0
  have hcG1_ : w7_.cell? ⟨w6_.heap.size, 1, none⟩ = some (.slice A_G1 q1.length c_G1) := (blk_cell BKG7.out 1).trans rfl
  have hfG1_ := blk_frozen BKG7.out 1
  have hcG2_ : w7_.cell? ⟨w6_.heap.size, 2, none⟩ = some (.slice A_G2 q2.length c_G2) := (blk_cell BKG7.out 2).trans rfl
  have hfG2_ := blk_frozen BKG7.out 2
  have hcG3_ : w7_.cell? ⟨w6_.heap.size, 3, none⟩ = some (.slice none 0 0) := (blk_cell BKG7.out 3).trans rfl
  have hfG3_ := blk_frozen BKG7.out 3
  go_wp2_with fail
  clear hcW0_ hfW0_ hcW1_ hfW1_ hcW2_ hfW2_ hcW3_ hfW3_ hcG0_ hfG0_ hcG1_ hfG1_ hcG2_ hfG2_ hcG3_ hfG3_
  refine (laws_eqFlood.calls k _ _ q0 _ _ q1 _ _ q2 none 0 [] _ _ r0 _ _ r1 _ _ r2 _ _ r3 true w7_ ((Kd.S_reads' G0_7.out).2.2) ((Kd.S_reads' G0_7.out).2.1) ((Kd.S_reads' G1_7.out).2.2) ((Kd.S_reads' G1_7.out).2.1) ((Kd.S_reads' G2_7.out).2.2) ((Kd.S_reads' G2_7.out).2.1) (Kd.C_nil _ _) (Nat.le_refl 0) ((Kd.S_reads' W0_7.out).2.2) ((Kd.S_reads' W0_7.out).2.1) ((Kd.S_reads' W1_7.out).2.2) ((Kd.S_reads' W1_7.out).2.1) ((Kd.S_reads' W2_7.out).2.2) ((Kd.S_reads' W2_7.out).2.1) ((Kd.R_reads' W3_7.out).2.2) ((Kd.R_reads' W3_7.out).2.1) BU.out).mono ?_
  rintro e w8_ ⟨rfl, hb_⟩
  have HB8 := Aside0.mk (below_step HB7.out hb_)
  have hz8 : w7_.heap.size ≤ w8_.heap.size := hb_.size
  have BKW8 := Aside0.mk (blk_below BKW7.out hb_)
  clear BKW7
  have BKG8 := Aside0.mk (blk_below BKG7.out hb_)
  clear BKG7
  have W0_8 := Aside0.mk (Kd.S_below W0_7.out hb_)
  clear W0_7
  have W1_8 := Aside0.mk (Kd.S_below W1_7.out hb_)
  clear W1_7
  have W2_8 := Aside0.mk (Kd.S_below W2_7.out hb_)
  clear W2_7
  have W3_8 := Aside0.mk (Kd.R_below W3_7.out hb_)
  clear W3_7
  have X_8 := Aside0.mk (Kd.S_below X_7.out hb_)
  clear X_7
  have G0_8 := Aside0.mk (Kd.S_below G0_7.out hb_)
  clear G0_7
  have G1_8 := Aside0.mk (Kd.S_below G1_7.out hb_)
  clear G1_7
  have G2_8 := Aside0.mk (Kd.S_below G2_7.out hb_)
  clear G2_7
  clear hb_
  have hcW0_ : w8_.cell? ⟨w3_.heap.size, 0, none⟩ = some (.slice A_W0 r0.length c_W0) := (blk_cell BKW8.out 0).trans rfl
  have hfW0_ := blk_frozen BKW8.out 0
  have hcW1_ : w8_.cell? ⟨w3_.heap.size, 1, none⟩ = some (.slice A_W1 r1.length c_W1) := (blk_cell BKW8.out 1).trans rfl
  have hfW1_ := blk_frozen BKW8.out 1
  have hcW2_ : w8_.cell? ⟨w3_.heap.size, 2, none⟩ = some (.slice A_W2 r2.length c_W2) := (blk_cell BKW8.out 2).trans rfl
  have hfW2_ := blk_frozen BKW8.out 2
  have hcW3_ : w8_.cell? ⟨w3_.heap.size, 3, none⟩ = some (.slice A_W3 r3.length c_W3) := (blk_cell BKW8.out 3).trans rfl
  have hfW3_ := blk_frozen BKW8.out 3
  have hcG0_ : w8_.cell? ⟨w6_.heap.size, 0, none⟩ = some (.slice A_G0 q0.length c_G0) := (blk_cell BKG8.out 0).trans rfl
  have hfG0_ := blk_frozen BKG8.out 0
  have hcG1_ : w8_.cell? ⟨w6_.heap.size, 1, none⟩ = some (.slice A_G1 q1.length c_G1) := (blk_cell BKG8.out 1).trans rfl
  have hfG1_ := blk_frozen BKG8.out 1
  have hcG2_ : w8_.cell? ⟨w6_.heap.size, 2, none⟩ = some (.slice A_G2 q2.length c_G2) := (blk_cell BKG8.out 2).trans rfl
  have hfG2_ := blk_frozen BKG8.out 2
  have hcG3_ : w8_.cell? ⟨w6_.heap.size, 3, none⟩ = some (.slice none 0 0) := (blk_cell BKG8.out 3).trans rfl
  have hfG3_ := blk_frozen BKG8.out 3
  go_wp2_with fail
  clear hcW0_ hfW0_ hcW1_ hfW1_ hcW2_ hfW2_ hcW3_ hfW3_ hcG0_ hfG0_ hcG1_ hfG1_ hcG2_ hfG2_ hcG3_ hfG3_
  refine (laws_toIntSS.calls k _ _ l1 x1 w8_ (Kd.C_below HR1.out HB8.out) HC1.out BT.out).mono ?_
  rintro e w9_ ⟨v_, rfl, ho_, hb_⟩
  have HB9 := Aside0.mk (below_step HB8.out hb_)
  have hz9 : w8_.heap.size ≤ w9_.heap.size := hb_.size
  have BKW9 := Aside0.mk (blk_below BKW8.out hb_)
  clear BKW8
  have BKG9 := Aside0.mk (blk_below BKG8.out hb_)
  clear BKG8
  have W0_9 := Aside0.mk (Kd.S_below W0_8.out hb_)
  clear W0_8
  have W1_9 := Aside0.mk (Kd.S_below W1_8.out hb_)
  clear W1_8
  have W2_9 := Aside0.mk (Kd.S_below W2_8.out hb_)
  clear W2_8
  have W3_9 := Aside0.mk (Kd.R_below W3_8.out hb_)
  clear W3_8
  have X_9 := Aside0.mk (Kd.S_below X_8.out hb_)
  clear X_8
  have G0_9 := Aside0.mk (Kd.S_below G0_8.out hb_)
  clear G0_8
  have G1_9 := Aside0.mk (Kd.S_below G1_8.out hb_)
  clear G1_8
  have G2_9 := Aside0.mk (Kd.S_below G2_8.out hb_)
  clear G2_8
  clear hb_
  have Y_n := Aside0.mk (Kd.S_lower (Kd.S_mono (Kd.S_bound ho_) (fun k_ hk => (⟨hk.2.1, hk.2.2.1⟩ : w8_.heap.size ≤ k_ ∧ k_ < w9_.heap.size))) (show w.heap.size ≤ w8_.heap.size by omega))
  clear ho_
  obtain ⟨A_Y, c_Y, ev_Y⟩ := Kd.S_slice Y_n.out
  subst ev_Y
  have hcW0_ : w9_.cell? ⟨w3_.heap.size, 0, none⟩ = some (.slice A_W0 r0.length c_W0) := (blk_cell BKW9.out 0).trans rfl
  have hfW0_ := blk_frozen BKW9.out 0
  have hcW1_ : w9_.cell? ⟨w3_.heap.size, 1, none⟩ = some (.slice A_W1 r1.length c_W1) := (blk_cell BKW9.out 1).trans rfl
  have hfW1_ := blk_frozen BKW9.out 1
  have hcW2_ : w9_.cell? ⟨w3_.heap.size, 2, none⟩ = some (.slice A_W2 r2.length c_W2) := (blk_cell BKW9.out 2).trans rfl
  have hfW2_ := blk_frozen BKW9.out 2
  have hcW3_ : w9_.cell? ⟨w3_.heap.size, 3, none⟩ = some (.slice A_W3 r3.length c_W3) := (blk_cell BKW9.out 3).trans rfl
  have hfW3_ := blk_frozen BKW9.out 3
  have hcG0_ : w9_.cell? ⟨w6_.heap.size, 0, none⟩ = some (.slice A_G0 q0.length c_G0) := (blk_cell BKG9.out 0).trans rfl
  have hfG0_ := blk_frozen BKG9.out 0
  have hcG1_ : w9_.cell? ⟨w6_.heap.size, 1, none⟩ = some (.slice A_G1 q1.length c_G1) := (blk_cell BKG9.out 1).trans rfl
  have hfG1_ := blk_frozen BKG9.out 1
  have hcG2_ : w9_.cell? ⟨w6_.heap.size, 2, none⟩ = some (.slice A_G2 q2.length c_G2) := (blk_cell BKG9.out 2).trans rfl
  have hfG2_ := blk_frozen BKG9.out 2
  have hcG3_ : w9_.cell? ⟨w6_.heap.size, 3, none⟩ = some (.slice none 0 0) := (blk_cell BKG9.out 3).trans rfl
  have hfG3_ := blk_frozen BKG9.out 3
  go_wp2_with fail
  clear hcW0_ hfW0_ hcW1_ hfW1_ hcW2_ hfW2_ hcW3_ hfW3_ hcG0_ hfG0_ hcG1_ hfG1_ hcG2_ hfG2_ hcG3_ hfG3_
  refine (laws_eqIntSS.calls k _ _ x1 _ _ x1 true w9_ ((Kd.S_reads' X_9.out).2.2) ((Kd.S_reads' X_9.out).2.1) ((Kd.S_reads' Y_n.out).2.2) ((Kd.S_reads' Y_n.out).2.1) BE.out).mono ?_
  rintro e w10_ ⟨rfl, hb0_⟩
  have hb_ := hb0_.below
  clear hb0_
  have HB10 := Aside0.mk (below_step HB9.out hb_)
  have hz10 : w9_.heap.size ≤ w10_.heap.size := hb_.size
  have BKW10 := Aside0.mk (blk_below BKW9.out hb_)
  clear BKW9
  have BKG10 := Aside0.mk (blk_below BKG9.out hb_)
  clear BKG9
  have W0_10 := Aside0.mk (Kd.S_below W0_9.out hb_)
  clear W0_9
  have W1_10 := Aside0.mk (Kd.S_below W1_9.out hb_)
  clear W1_9
  have W2_10 := Aside0.mk (Kd.S_below W2_9.out hb_)
  clear W2_9
  have W3_10 := Aside0.mk (Kd.R_below W3_9.out hb_)
  clear W3_9
  have X_10 := Aside0.mk (Kd.S_below X_9.out hb_)
  clear X_9
  have G0_10 := Aside0.mk (Kd.S_below G0_9.out hb_)
  clear G0_9
  have G1_10 := Aside0.mk (Kd.S_below G1_9.out hb_)
  clear G1_9
  have G2_10 := Aside0.mk (Kd.S_below G2_9.out hb_)
  clear G2_9
  have Y_10 := Aside0.mk (Kd.S_below Y_n.out hb_)
  clear Y_n
  clear hb_
  clear Y_10
  have hcW0_ : w10_.cell? ⟨w3_.heap.size, 0, none⟩ = some (.slice A_W0 r0.length c_W0) := (blk_cell BKW10.out 0).trans rfl
  have hfW0_ := blk_frozen BKW10.out 0
  have hcW1_ : w10_.cell? ⟨w3_.heap.size, 1, none⟩ = some (.slice A_W1 r1.length c_W1) := (blk_cell BKW10.out 1).trans rfl
  have hfW1_ := blk_frozen BKW10.out 1
  have hcW2_ : w10_.cell? ⟨w3_.heap.size, 2, none⟩ = some (.slice A_W2 r2.length c_W2) := (blk_cell BKW10.out 2).trans rfl
  have hfW2_ := blk_frozen BKW10.out 2
  have hcW3_ : w10_.cell? ⟨w3_.heap.size, 3, none⟩ = some (.slice A_W3 r3.length c_W3) := (blk_cell BKW10.out 3).trans rfl
  have hfW3_ := blk_frozen BKW10.out 3
  have hcG0_ : w10_.cell? ⟨w6_.heap.size, 0, none⟩ = some (.slice A_G0 q0.length c_G0) := (blk_cell BKG10.out 0).trans rfl
  have hfG0_ := blk_frozen BKG10.out 0
  have hcG1_ : w10_.cell? ⟨w6_.heap.size, 1, none⟩ = some (.slice A_G1 q1.length c_G1) := (blk_cell BKG10.out 1).trans rfl
  have hfG1_ := blk_frozen BKG10.out 1
  have hcG2_ : w10_.cell? ⟨w6_.heap.size, 2, none⟩ = some (.slice A_G2 q2.length c_G2) := (blk_cell BKG10.out 2).trans rfl
  have hfG2_ := blk_frozen BKG10.out 2
  have hcG3_ : w10_.cell? ⟨w6_.heap.size, 3, none⟩ = some (.slice none 0 0) := (blk_cell BKG10.out 3).trans rfl
  have hfG3_ := blk_frozen BKG10.out 3
  go_wp2_with fail
  clear hcW0_ hfW0_ hcW1_ hfW1_ hcW2_ hfW2_ hcW3_ hfW3_ hcG0_ hfG0_ hcG1_ hfG1_ hcG2_ hfG2_ hcG3_ hfG3_
  refine (laws_markIntSS.calls k (fun k_ => w4_.heap.size ≤ k_ ∧ k_ < w5_.heap.size) (.slice A_X x1.length c_X) x1 1 m1 y1 w w10_ HB10.out X_10.out BM.out).mono ?_
  rintro e w11_ ⟨rfl, ho_, hb_, hk_⟩
  clear X_10 ho_
  have HM1 := HM.out
  have HB11 := Aside0.mk hb_
  have hz11 : w10_.heap.size ≤ w11_.heap.size := hk_.1
  have BKW11 := Aside0.mk (blk_kept BKW10.out hk_ (fun h2_ => by first | omega | (rcases h2_ with h2_ | h2_ | h2_ <;> omega)))
  clear BKW10
  have BKG11 := Aside0.mk (blk_kept BKG10.out hk_ (fun h2_ => by first | omega | (rcases h2_ with h2_ | h2_ | h2_ <;> omega)))
  clear BKG10
  have W0_11 := Aside0.mk (Kd.S_kept W0_10.out hk_ (fun k_ h1_ h2_ => by omega))
  clear W0_10
  have W1_11 := Aside0.mk (Kd.S_kept W1_10.out hk_ (fun k_ h1_ h2_ => by omega))
  clear W1_10
  have W2_11 := Aside0.mk (Kd.S_kept W2_10.out hk_ (fun k_ h1_ h2_ => by omega))
  clear W2_10
  have W3_11 := Aside0.mk (Kd.R_kept W3_10.out hk_ (fun k_ h1_ h2_ => by omega))
  clear W3_10
  have G0_11 := Aside0.mk (Kd.S_kept G0_10.out hk_ (fun k_ h1_ h2_ => by omega))
  clear G0_10
  have G1_11 := Aside0.mk (Kd.S_kept G1_10.out hk_ (fun k_ h1_ h2_ => by omega))
  clear G1_10
  have G2_11 := Aside0.mk (Kd.S_kept G2_10.out hk_ (fun k_ h1_ h2_ => by omega))
  clear G2_10
  clear hb_ hk_
  have hcW0_ : w11_.cell? ⟨w3_.heap.size, 0, none⟩ = some (.slice A_W0 r0.length c_W0) := (blk_cell BKW11.out 0).trans rfl
  have hfW0_ := blk_frozen BKW11.out 0
  have hcW1_ : w11_.cell? ⟨w3_.heap.size, 1, none⟩ = some (.slice A_W1 r1.length c_W1) := (blk_cell BKW11.out 1).trans rfl
  have hfW1_ := blk_frozen BKW11.out 1
  have hcW2_ : w11_.cell? ⟨w3_.heap.size, 2, none⟩ = some (.slice A_W2 r2.length c_W2) := (blk_cell BKW11.out 2).trans rfl
  have hfW2_ := blk_frozen BKW11.out 2
  have hcW3_ : w11_.cell? ⟨w3_.heap.size, 3, none⟩ = some (.slice A_W3 r3.length c_W3) := (blk_cell BKW11.out 3).trans rfl
  have hfW3_ := blk_frozen BKW11.out 3
  have hcG0_ : w11_.cell? ⟨w6_.heap.size, 0, none⟩ = some (.slice A_G0 q0.length c_G0) := (blk_cell BKG11.out 0).trans rfl
  have hfG0_ := blk_frozen BKG11.out 0
  have hcG1_ : w11_.cell? ⟨w6_.heap.size, 1, none⟩ = some (.slice A_G1 q1.length c_G1) := (blk_cell BKG11.out 1).trans rfl
  have hfG1_ := blk_frozen BKG11.out 1
  have hcG2_ : w11_.cell? ⟨w6_.heap.size, 2, none⟩ = some (.slice A_G2 q2.length c_G2) := (blk_cell BKG11.out 2).trans rfl
  have hfG2_ := blk_frozen BKG11.out 2
  have hcG3_ : w11_.cell? ⟨w6_.heap.size, 3, none⟩ = some (.slice none 0 0) := (blk_cell BKG11.out 3).trans rfl
  have hfG3_ := blk_frozen BKG11.out 3
  go_wp2_with fail
  clear hcW0_ hfW0_ hcW1_ hfW1_ hcW2_ hfW2_ hcW3_ hfW3_ hcG0_ hfG0_ hcG1_ hfG1_ hcG2_ hfG2_ hcG3_ hfG3_
  refine (laws_eqFlood.calls k _ _ q0 _ _ q1 _ _ q2 none 0 [] _ _ r0 _ _ r1 _ _ r2 _ _ r3 true w11_ ((Kd.S_reads' G0_11.out).2.2) ((Kd.S_reads' G0_11.out).2.1) ((Kd.S_reads' G1_11.out).2.2) ((Kd.S_reads' G1_11.out).2.1) ((Kd.S_reads' G2_11.out).2.2) ((Kd.S_reads' G2_11.out).2.1) (Kd.C_nil _ _) (Nat.le_refl 0) ((Kd.S_reads' W0_11.out).2.2) ((Kd.S_reads' W0_11.out).2.1) ((Kd.S_reads' W1_11.out).2.2) ((Kd.S_reads' W1_11.out).2.1) ((Kd.S_reads' W2_11.out).2.2) ((Kd.S_reads' W2_11.out).2.1) ((Kd.R_reads' W3_11.out).2.2) ((Kd.R_reads' W3_11.out).2.1) BU.out).mono ?_
  rintro e w12_ ⟨rfl, hb_⟩
  have HB12 := Aside0.mk (below_step HB11.out hb_)
  have hz12 : w11_.heap.size ≤ w12_.heap.size := hb_.size
  have BKW12 := Aside0.mk (blk_below BKW11.out hb_)
  clear BKW11
  have BKG12 := Aside0.mk (blk_below BKG11.out hb_)
  clear BKG11
  have W0_12 := Aside0.mk (Kd.S_below W0_11.out hb_)
  clear W0_11
  have W1_12 := Aside0.mk (Kd.S_below W1_11.out hb_)
  clear W1_11
  have W2_12 := Aside0.mk (Kd.S_below W2_11.out hb_)
  clear W2_11
  have W3_12 := Aside0.mk (Kd.R_below W3_11.out hb_)
  clear W3_11
  have G0_12 := Aside0.mk (Kd.S_below G0_11.out hb_)
  clear G0_11
  have G1_12 := Aside0.mk (Kd.S_below G1_11.out hb_)
  clear G1_11
  have G2_12 := Aside0.mk (Kd.S_below G2_11.out hb_)
  clear G2_11
  clear hb_
  have hcW0_ : w12_.cell? ⟨w3_.heap.size, 0, none⟩ = some (.slice A_W0 r0.length c_W0) := (blk_cell BKW12.out 0).trans rfl
  have hfW0_ := blk_frozen BKW12.out 0
  have hcW1_ : w12_.cell? ⟨w3_.heap.size, 1, none⟩ = some (.slice A_W1 r1.length c_W1) := (blk_cell BKW12.out 1).trans rfl
  have hfW1_ := blk_frozen BKW12.out 1
  have hcW2_ : w12_.cell? ⟨w3_.heap.size, 2, none⟩ = some (.slice A_W2 r2.length c_W2) := (blk_cell BKW12.out 2).trans rfl
  have hfW2_ := blk_frozen BKW12.out 2
  have hcW3_ : w12_.cell? ⟨w3_.heap.size, 3, none⟩ = some (.slice A_W3 r3.length c_W3) := (blk_cell BKW12.out 3).trans rfl
  have hfW3_ := blk_frozen BKW12.out 3
  have hcG0_ : w12_.cell? ⟨w6_.heap.size, 0, none⟩ = some (.slice A_G0 q0.length c_G0) := (blk_cell BKG12.out 0).trans rfl
  have hfG0_ := blk_frozen BKG12.out 0
  have hcG1_ : w12_.cell? ⟨w6_.heap.size, 1, none⟩ = some (.slice A_G1 q1.length c_G1) := (blk_cell BKG12.out 1).trans rfl
  have hfG1_ := blk_frozen BKG12.out 1
  have hcG2_ : w12_.cell? ⟨w6_.heap.size, 2, none⟩ = some (.slice A_G2 q2.length c_G2) := (blk_cell BKG12.out 2).trans rfl
  have hfG2_ := blk_frozen BKG12.out 2
  have hcG3_ : w12_.cell? ⟨w6_.heap.size, 3, none⟩ = some (.slice none 0 0) := (blk_cell BKG12.out 3).trans rfl
  have hfG3_ := blk_frozen BKG12.out 3
  go_wp2_with fail
  clear hcW0_ hfW0_ hcW1_ hfW1_ hcW2_ hfW2_ hcW3_ hfW3_ hcG0_ hfG0_ hcG1_ hfG1_ hcG2_ hfG2_ hcG3_ hfG3_
  refine (laws_markFlood.calls k (fun k_ => w5_.heap.size ≤ k_ ∧ k_ < w6_.heap.size ∧ (k_ < m1_)) (fun k_ => w5_.heap.size ≤ k_ ∧ k_ < w6_.heap.size ∧ (m1_ ≤ k_ ∧ k_ < m2_)) (fun k_ => w5_.heap.size ≤ k_ ∧ k_ < w6_.heap.size ∧ (m2_ ≤ k_)) (.slice A_G0 q0.length c_G0) (.slice A_G1 q1.length c_G1) (.slice A_G2 q2.length c_G2) q0 q1 q2 1 p0 z0 z1 z2 w w12_ HB12.out (fun k_ h1_ h2_ => by omega) (fun k_ h1_ h2_ => by omega) (fun k_ h1_ h2_ => by omega) G0_12.out G1_12.out G2_12.out BN.out).mono ?_
  rintro e w13_ ⟨rfl, ho0_, ho1_, ho2_, hb_, hk_⟩
  clear G0_12 G1_12 G2_12
  have HB13 := Aside0.mk hb_
  have hz13 : w12_.heap.size ≤ w13_.heap.size := hk_.1
  have BKW13 := Aside0.mk (blk_kept BKW12.out hk_ (fun h2_ => by first | omega | (rcases h2_ with h2_ | h2_ | h2_ <;> omega)))
  clear BKW12
  have BKG13 := Aside0.mk (blk_kept BKG12.out hk_ (fun h2_ => by first | omega | (rcases h2_ with h2_ | h2_ | h2_ <;> omega)))
  clear BKG12
  have W0_13 := Aside0.mk (Kd.S_kept W0_12.out hk_ (fun k_ h1_ h2_ => by rcases h2_ with h2_ | h2_ | h2_ <;> omega))
  clear W0_12
  have W1_13 := Aside0.mk (Kd.S_kept W1_12.out hk_ (fun k_ h1_ h2_ => by rcases h2_ with h2_ | h2_ | h2_ <;> omega))
  clear W1_12
  have W2_13 := Aside0.mk (Kd.S_kept W2_12.out hk_ (fun k_ h1_ h2_ => by rcases h2_ with h2_ | h2_ | h2_ <;> omega))
  clear W2_12
  have W3_13 := Aside0.mk (Kd.R_kept W3_12.out hk_ (fun k_ h1_ h2_ => by rcases h2_ with h2_ | h2_ | h2_ <;> omega))
  clear W3_12
  have G0_w := Aside0.mk ho0_
  have EL0 := Aside0.mk ((Kd.S_reads' G0_w.out).1 : q0.length = z0.length)
  have G1_w := Aside0.mk ho1_
  have EL1 := Aside0.mk ((Kd.S_reads' G1_w.out).1 : q1.length = z1.length)
  have G2_w := Aside0.mk ho2_
  have EL2 := Aside0.mk ((Kd.S_reads' G2_w.out).1 : q2.length = z2.length)
  clear hb_ hk_ ho0_ ho1_ ho2_ HM1
  have hcW0_ : w13_.cell? ⟨w3_.heap.size, 0, none⟩ = some (.slice A_W0 r0.length c_W0) := (blk_cell BKW13.out 0).trans rfl
  have hfW0_ := blk_frozen BKW13.out 0
  have hcW1_ : w13_.cell? ⟨w3_.heap.size, 1, none⟩ = some (.slice A_W1 r1.length c_W1) := (blk_cell BKW13.out 1).trans rfl
  have hfW1_ := blk_frozen BKW13.out 1
  have hcW2_ : w13_.cell? ⟨w3_.heap.size, 2, none⟩ = some (.slice A_W2 r2.length c_W2) := (blk_cell BKW13.out 2).trans rfl
  have hfW2_ := blk_frozen BKW13.out 2
  have hcW3_ : w13_.cell? ⟨w3_.heap.size, 3, none⟩ = some (.slice A_W3 r3.length c_W3) := (blk_cell BKW13.out 3).trans rfl
  have hfW3_ := blk_frozen BKW13.out 3
  have hcG0_ : w13_.cell? ⟨w6_.heap.size, 0, none⟩ = some (.slice A_G0 q0.length c_G0) := (blk_cell BKG13.out 0).trans rfl
  have hfG0_ := blk_frozen BKG13.out 0
  have hcG1_ : w13_.cell? ⟨w6_.heap.size, 1, none⟩ = some (.slice A_G1 q1.length c_G1) := (blk_cell BKG13.out 1).trans rfl
  have hfG1_ := blk_frozen BKG13.out 1
  have hcG2_ : w13_.cell? ⟨w6_.heap.size, 2, none⟩ = some (.slice A_G2 q2.length c_G2) := (blk_cell BKG13.out 2).trans rfl
  have hfG2_ := blk_frozen BKG13.out 2
  have hcG3_ : w13_.cell? ⟨w6_.heap.size, 3, none⟩ = some (.slice none 0 0) := (blk_cell BKG13.out 3).trans rfl
  have hfG3_ := blk_frozen BKG13.out 3
  go_wp2_with fail
  clear hcW0_ hfW0_ hcW1_ hfW1_ hcW2_ hfW2_ hcW3_ hfW3_ hcG0_ hfG0_ hcG1_ hfG1_ hcG2_ hfG2_ hcG3_ hfG3_
  have hx0_ := Kd.S_reads' G0_w.out
  rw [EL0.out] at hx0_
  have hx1_ := Kd.S_reads' G1_w.out
  rw [EL1.out] at hx1_
  have hx2_ := Kd.S_reads' G2_w.out
  rw [EL2.out] at hx2_
  rw [EL0.out, EL1.out, EL2.out]
  refine (laws_heldFlood.calls k _ _ z0 _ _ z1 _ _ z2 none 0 [] 1 p0 w13_ hx0_.2.2 hx0_.2.1 hx1_.2.2 hx1_.2.1 hx2_.2.2 hx2_.2.1 (Kd.C_nil _ _) (Nat.le_refl 0) BH.out).mono ?_
  clear hx0_ hx1_ hx2_
  rintro e w14_ ⟨rfl, hb_⟩
  have HB14 := Aside0.mk (below_step HB13.out hb_)
  have hz14 : w13_.heap.size ≤ w14_.heap.size := hb_.size
  have BKW14 := Aside0.mk (blk_below BKW13.out hb_)
  clear BKW13
  have BKG14 := Aside0.mk (blk_below BKG13.out hb_)
  clear BKG13
  have W0_14 := Aside0.mk (Kd.S_below W0_13.out hb_)
  clear W0_13
  have W1_14 := Aside0.mk (Kd.S_below W1_13.out hb_)
  clear W1_13
  have W2_14 := Aside0.mk (Kd.S_below W2_13.out hb_)
  clear W2_13
  have W3_14 := Aside0.mk (Kd.R_below W3_13.out hb_)
  clear W3_13
  have G0_14 := Aside0.mk (Kd.S_below G0_w.out hb_)
  clear G0_w
  have G1_14 := Aside0.mk (Kd.S_below G1_w.out hb_)
  clear G1_w
  have G2_14 := Aside0.mk (Kd.S_below G2_w.out hb_)
  clear G2_w
  clear hb_
  have hcW0_ : w14_.cell? ⟨w3_.heap.size, 0, none⟩ = some (.slice A_W0 r0.length c_W0) := (blk_cell BKW14.out 0).trans rfl
  have hfW0_ := blk_frozen BKW14.out 0
  have hcW1_ : w14_.cell? ⟨w3_.heap.size, 1, none⟩ = some (.slice A_W1 r1.length c_W1) := (blk_cell BKW14.out 1).trans rfl
  have hfW1_ := blk_frozen BKW14.out 1
  have hcW2_ : w14_.cell? ⟨w3_.heap.size, 2, none⟩ = some (.slice A_W2 r2.length c_W2) := (blk_cell BKW14.out 2).trans rfl
  have hfW2_ := blk_frozen BKW14.out 2
  have hcW3_ : w14_.cell? ⟨w3_.heap.size, 3, none⟩ = some (.slice A_W3 r3.length c_W3) := (blk_cell BKW14.out 3).trans rfl
  have hfW3_ := blk_frozen BKW14.out 3
  have hcG0_ : w14_.cell? ⟨w6_.heap.size, 0, none⟩ = some (.slice A_G0 q0.length c_G0) := (blk_cell BKG14.out 0).trans rfl
  have hfG0_ := blk_frozen BKG14.out 0
  have hcG1_ : w14_.cell? ⟨w6_.heap.size, 1, none⟩ = some (.slice A_G1 q1.length c_G1) := (blk_cell BKG14.out 1).trans rfl
  have hfG1_ := blk_frozen BKG14.out 1
  have hcG2_ : w14_.cell? ⟨w6_.heap.size, 2, none⟩ = some (.slice A_G2 q2.length c_G2) := (blk_cell BKG14.out 2).trans rfl
  have hfG2_ := blk_frozen BKG14.out 2
  have hcG3_ : w14_.cell? ⟨w6_.heap.size, 3, none⟩ = some (.slice none 0 0) := (blk_cell BKG14.out 3).trans rfl
  have hfG3_ := blk_frozen BKG14.out 3
  go_wp2_with fail
  clear hcW0_ hfW0_ hcW1_ hfW1_ hcW2_ hfW2_ hcW3_ hfW3_ hcG0_ hfG0_ hcG1_ hfG1_ hcG2_ hfG2_ hcG3_ hfG3_
  refine (laws_toIntSS.calls k _ _ l1 x1 w14_ (Kd.C_below HR1.out HB14.out) HC1.out BT.out).mono ?_
  rintro e w15_ ⟨v_, rfl, ho_, hb_⟩
  have HB15 := Aside0.mk (below_step HB14.out hb_)
  have hz15 : w14_.heap.size ≤ w15_.heap.size := hb_.size
  have BKW15 := Aside0.mk (blk_below BKW14.out hb_)
  clear BKW14
  have BKG15 := Aside0.mk (blk_below BKG14.out hb_)
  clear BKG14
  have W0_15 := Aside0.mk (Kd.S_below W0_14.out hb_)
  clear W0_14
  have W1_15 := Aside0.mk (Kd.S_below W1_14.out hb_)
  clear W1_14
  have W2_15 := Aside0.mk (Kd.S_below W2_14.out hb_)
  clear W2_14
  have W3_15 := Aside0.mk (Kd.R_below W3_14.out hb_)
  clear W3_14
  have G0_15 := Aside0.mk (Kd.S_below G0_14.out hb_)
  clear G0_14
  have G1_15 := Aside0.mk (Kd.S_below G1_14.out hb_)
  clear G1_14
  have G2_15 := Aside0.mk (Kd.S_below G2_14.out hb_)
  clear G2_14
  clear hb_
  have Z_n := Aside0.mk (Kd.S_lower (Kd.S_mono (Kd.S_bound ho_) (fun k_ hk => (⟨hk.2.1, hk.2.2.1⟩ : w14_.heap.size ≤ k_ ∧ k_ < w15_.heap.size))) (show w.heap.size ≤ w14_.heap.size by omega))
  clear ho_
  obtain ⟨A_Z, c_Z, ev_Z⟩ := Kd.S_slice Z_n.out
  subst ev_Z
  have hcW0_ : w15_.cell? ⟨w3_.heap.size, 0, none⟩ = some (.slice A_W0 r0.length c_W0) := (blk_cell BKW15.out 0).trans rfl
  have hfW0_ := blk_frozen BKW15.out 0
  have hcW1_ : w15_.cell? ⟨w3_.heap.size, 1, none⟩ = some (.slice A_W1 r1.length c_W1) := (blk_cell BKW15.out 1).trans rfl
  have hfW1_ := blk_frozen BKW15.out 1
  have hcW2_ : w15_.cell? ⟨w3_.heap.size, 2, none⟩ = some (.slice A_W2 r2.length c_W2) := (blk_cell BKW15.out 2).trans rfl
  have hfW2_ := blk_frozen BKW15.out 2
  have hcW3_ : w15_.cell? ⟨w3_.heap.size, 3, none⟩ = some (.slice A_W3 r3.length c_W3) := (blk_cell BKW15.out 3).trans rfl
  have hfW3_ := blk_frozen BKW15.out 3
  have hcG0_ : w15_.cell? ⟨w6_.heap.size, 0, none⟩ = some (.slice A_G0 q0.length c_G0) := (blk_cell BKG15.out 0).trans rfl
  have hfG0_ := blk_frozen BKG15.out 0
  have hcG1_ : w15_.cell? ⟨w6_.heap.size, 1, none⟩ = some (.slice A_G1 q1.length c_G1) := (blk_cell BKG15.out 1).trans rfl
  have hfG1_ := blk_frozen BKG15.out 1
  have hcG2_ : w15_.cell? ⟨w6_.heap.size, 2, none⟩ = some (.slice A_G2 q2.length c_G2) := (blk_cell BKG15.out 2).trans rfl
  have hfG2_ := blk_frozen BKG15.out 2
  have hcG3_ : w15_.cell? ⟨w6_.heap.size, 3, none⟩ = some (.slice none 0 0) := (blk_cell BKG15.out 3).trans rfl
  have hfG3_ := blk_frozen BKG15.out 3
  go_wp2_with fail
  clear hcW0_ hfW0_ hcW1_ hfW1_ hcW2_ hfW2_ hcW3_ hfW3_ hcG0_ hfG0_ hcG1_ hfG1_ hcG2_ hfG2_ hcG3_ hfG3_
  refine (impl_NewFlood.calls k a0 _ _ x1 q0 q1 q2 ([] : List S61) q4 w15_ ((Kd.S_reads' Z_n.out).2.2) ((Kd.S_reads' Z_n.out).2.1) BI.out).mono ?_
  rintro e w16_ ⟨v0_, v1_, v2_, v3_, rfl, ho0_, ho1_, ho2_, ho3_, hb_⟩
  have HB16 := Aside0.mk (below_step HB15.out hb_)
  have hz16 : w15_.heap.size ≤ w16_.heap.size := hb_.size
  have BKW16 := Aside0.mk (blk_below BKW15.out hb_)
  clear BKW15
  have BKG16 := Aside0.mk (blk_below BKG15.out hb_)
  clear BKG15
  have W0_16 := Aside0.mk (Kd.S_below W0_15.out hb_)
  clear W0_15
  have W1_16 := Aside0.mk (Kd.S_below W1_15.out hb_)
  clear W1_15
  have W2_16 := Aside0.mk (Kd.S_below W2_15.out hb_)
  clear W2_15
  have W3_16 := Aside0.mk (Kd.R_below W3_15.out hb_)
  clear W3_15
  have G0_16 := Aside0.mk (Kd.S_below G0_15.out hb_)
  clear G0_15
  have G1_16 := Aside0.mk (Kd.S_below G1_15.out hb_)
  clear G1_15
  have G2_16 := Aside0.mk (Kd.S_below G2_15.out hb_)
  clear G2_15
  have Z_16 := Aside0.mk (Kd.S_below Z_n.out hb_)
  clear Z_n
  clear hb_
  have H0_n := Aside0.mk (Kd.S_lower (Kd.S_mono (Kd.S_bound ho0_) (fun k_ hk => (⟨hk.2.1, hk.2.2.1⟩ : w15_.heap.size ≤ k_ ∧ k_ < w16_.heap.size))) (show w.heap.size ≤ w15_.heap.size by omega))
  clear ho0_
  obtain ⟨A_H0, c_H0, ev_H0⟩ := Kd.S_slice H0_n.out
  subst ev_H0
  have H1_n := Aside0.mk (Kd.S_lower (Kd.S_mono (Kd.S_bound ho1_) (fun k_ hk => (⟨hk.2.1, hk.2.2.1⟩ : w15_.heap.size ≤ k_ ∧ k_ < w16_.heap.size))) (show w.heap.size ≤ w15_.heap.size by omega))
  clear ho1_
  obtain ⟨A_H1, c_H1, ev_H1⟩ := Kd.S_slice H1_n.out
  subst ev_H1
  have H2_n := Aside0.mk (Kd.S_lower (Kd.S_mono (Kd.S_bound ho2_) (fun k_ hk => (⟨hk.2.1, hk.2.2.1⟩ : w15_.heap.size ≤ k_ ∧ k_ < w16_.heap.size))) (show w.heap.size ≤ w15_.heap.size by omega))
  clear ho2_
  obtain ⟨A_H2, c_H2, ev_H2⟩ := Kd.S_slice H2_n.out
  subst ev_H2
  have H3_n := Aside0.mk (Kd.R_lower (Kd.R_mono (Kd.R_bound ho3_) (fun k_ hk => (⟨hk.2.1, hk.2.2.1⟩ : w15_.heap.size ≤ k_ ∧ k_ < w16_.heap.size))) (show w.heap.size ≤ w15_.heap.size by omega))
  clear ho3_
  obtain ⟨A_H3, c_H3, ev_H3⟩ := Kd.R_slice H3_n.out
  rw [List.length_nil] at ev_H3
  subst ev_H3
  clear Z_16
  have hcW0_ : w16_.cell? ⟨w3_.heap.size, 0, none⟩ = some (.slice A_W0 r0.length c_W0) := (blk_cell BKW16.out 0).trans rfl
  have hfW0_ := blk_frozen BKW16.out 0
  have hcW1_ : w16_.cell? ⟨w3_.heap.size, 1, none⟩ = some (.slice A_W1 r1.length c_W1) := (blk_cell BKW16.out 1).trans rfl
  have hfW1_ := blk_frozen BKW16.out 1
  have hcW2_ : w16_.cell? ⟨w3_.heap.size, 2, none⟩ = some (.slice A_W2 r2.length c_W2) := (blk_cell BKW16.out 2).trans rfl
  have hfW2_ := blk_frozen BKW16.out 2
  have hcW3_ : w16_.cell? ⟨w3_.heap.size, 3, none⟩ = some (.slice A_W3 r3.length c_W3) := (blk_cell BKW16.out 3).trans rfl
  have hfW3_ := blk_frozen BKW16.out 3
  have hcG0_ : w16_.cell? ⟨w6_.heap.size, 0, none⟩ = some (.slice A_G0 q0.length c_G0) := (blk_cell BKG16.out 0).trans rfl
  have hfG0_ := blk_frozen BKG16.out 0
  have hcG1_ : w16_.cell? ⟨w6_.heap.size, 1, none⟩ = some (.slice A_G1 q1.length c_G1) := (blk_cell BKG16.out 1).trans rfl
  have hfG1_ := blk_frozen BKG16.out 1
  have hcG2_ : w16_.cell? ⟨w6_.heap.size, 2, none⟩ = some (.slice A_G2 q2.length c_G2) := (blk_cell BKG16.out 2).trans rfl
  have hfG2_ := blk_frozen BKG16.out 2
  have hcG3_ : w16_.cell? ⟨w6_.heap.size, 3, none⟩ = some (.slice none 0 0) := (blk_cell BKG16.out 3).trans rfl
  have hfG3_ := blk_frozen BKG16.out 3
  go_upto_region 25 with fail
  clear hcW0_ hfW0_ hcW1_ hfW1_ hcW2_ hfW2_ hcW3_ hfW3_ hcG0_ hfG0_ hcG1_ hfG1_ hcG2_ hfG2_ hcG3_ hfG3_
  have hb_ := below_alloc (Below.refl w16_.heap.size w16_) (Obj.cells #[.slice A_H0 q0.length c_H0, .slice A_H1 q1.length c_H1, .slice A_H2 q2.length c_H2, .slice A_H3 0 c_H3] 26 (0, 0))
  have hblk_ := blk_new w16_ (Obj.cells #[.slice A_H0 q0.length c_H0, .slice A_H1 q1.length c_H1, .slice A_H2 q2.length c_H2, .slice A_H3 0 c_H3] 26 (0, 0))
  generalize w16_.alloc (Obj.cells #[.slice A_H0 q0.length c_H0, .slice A_H1 q1.length c_H1, .slice A_H2 q2.length c_H2, .slice A_H3 0 c_H3] 26 (0, 0)) = w17_ at hb_ hblk_ ⊢
  have BKH17 := Aside0.mk hblk_
  have hs17 := blk_lt hblk_
  clear hblk_
  have HB17 := Aside0.mk (below_step HB16.out hb_)
  have hz17 : w16_.heap.size ≤ w17_.heap.size := hb_.size
  have BKW17 := Aside0.mk (blk_below BKW16.out hb_)
  clear BKW16
  have BKG17 := Aside0.mk (blk_below BKG16.out hb_)
  clear BKG16
  have W0_17 := Aside0.mk (Kd.S_below W0_16.out hb_)
  clear W0_16
  have W1_17 := Aside0.mk (Kd.S_below W1_16.out hb_)
  clear W1_16
  have W2_17 := Aside0.mk (Kd.S_below W2_16.out hb_)
  clear W2_16
  have W3_17 := Aside0.mk (Kd.R_below W3_16.out hb_)
  clear W3_16
  have G0_17 := Aside0.mk (Kd.S_below G0_16.out hb_)
  clear G0_16
  have G1_17 := Aside0.mk (Kd.S_below G1_16.out hb_)
  clear G1_16
  have G2_17 := Aside0.mk (Kd.S_below G2_16.out hb_)
  clear G2_16
  have H0_17 := Aside0.mk (Kd.S_below H0_n.out hb_)
  clear H0_n
  have H1_17 := Aside0.mk (Kd.S_below H1_n.out hb_)
  clear H1_n
  have H2_17 := Aside0.mk (Kd.S_below H2_n.out hb_)
  clear H2_n
  have H3_17 := Aside0.mk (Kd.R_below H3_n.out hb_)
  clear H3_n
  clear hb_
  have hcW0_ : w17_.cell? ⟨w3_.heap.size, 0, none⟩ = some (.slice A_W0 r0.length c_W0) := (blk_cell BKW17.out 0).trans rfl
  have hfW0_ := blk_frozen BKW17.out 0
  have hcW1_ : w17_.cell? ⟨w3_.heap.size, 1, none⟩ = some (.slice A_W1 r1.length c_W1) := (blk_cell BKW17.out 1).trans rfl
  have hfW1_ := blk_frozen BKW17.out 1
  have hcW2_ : w17_.cell? ⟨w3_.heap.size, 2, none⟩ = some (.slice A_W2 r2.length c_W2) := (blk_cell BKW17.out 2).trans rfl
  have hfW2_ := blk_frozen BKW17.out 2
  have hcW3_ : w17_.cell? ⟨w3_.heap.size, 3, none⟩ = some (.slice A_W3 r3.length c_W3) := (blk_cell BKW17.out 3).trans rfl
  have hfW3_ := blk_frozen BKW17.out 3
  have hcG0_ : w17_.cell? ⟨w6_.heap.size, 0, none⟩ = some (.slice A_G0 q0.length c_G0) := (blk_cell BKG17.out 0).trans rfl
  have hfG0_ := blk_frozen BKG17.out 0
  have hcG1_ : w17_.cell? ⟨w6_.heap.size, 1, none⟩ = some (.slice A_G1 q1.length c_G1) := (blk_cell BKG17.out 1).trans rfl
  have hfG1_ := blk_frozen BKG17.out 1
  have hcG2_ : w17_.cell? ⟨w6_.heap.size, 2, none⟩ = some (.slice A_G2 q2.length c_G2) := (blk_cell BKG17.out 2).trans rfl
  have hfG2_ := blk_frozen BKG17.out 2
  have hcG3_ : w17_.cell? ⟨w6_.heap.size, 3, none⟩ = some (.slice none 0 0) := (blk_cell BKG17.out 3).trans rfl
  have hfG3_ := blk_frozen BKG17.out 3
  have hcH0_ : w17_.cell? ⟨w16_.heap.size, 0, none⟩ = some (.slice A_H0 q0.length c_H0) := (blk_cell BKH17.out 0).trans rfl
  have hfH0_ := blk_frozen BKH17.out 0
  have hcH1_ : w17_.cell? ⟨w16_.heap.size, 1, none⟩ = some (.slice A_H1 q1.length c_H1) := (blk_cell BKH17.out 1).trans rfl
  have hfH1_ := blk_frozen BKH17.out 1
  have hcH2_ : w17_.cell? ⟨w16_.heap.size, 2, none⟩ = some (.slice A_H2 q2.length c_H2) := (blk_cell BKH17.out 2).trans rfl
  have hfH2_ := blk_frozen BKH17.out 2
  have hcH3_ : w17_.cell? ⟨w16_.heap.size, 3, none⟩ = some (.slice A_H3 0 c_H3) := (blk_cell BKH17.out 3).trans rfl
  have hfH3_ := blk_frozen BKH17.out 3
  go_wp2_with fail
  clear hcW0_ hfW0_ hcW1_ hfW1_ hcW2_ hfW2_ hcW3_ hfW3_ hcG0_ hfG0_ hcG1_ hfG1_ hcG2_ hfG2_ hcG3_ hfG3_ hcH0_ hfH0_ hcH1_ hfH1_ hcH2_ hfH2_ hcH3_ hfH3_
  refine (laws_eqFlood.calls k _ _ q0 _ _ q1 _ _ q2 _ _ ([] : List S61) _ _ r0 _ _ r1 _ _ r2 _ _ r3 true w17_ ((Kd.S_reads' H0_17.out).2.2) ((Kd.S_reads' H0_17.out).2.1) ((Kd.S_reads' H1_17.out).2.2) ((Kd.S_reads' H1_17.out).2.1) ((Kd.S_reads' H2_17.out).2.2) ((Kd.S_reads' H2_17.out).2.1) ((Kd.R_reads' H3_17.out).2.2) ((Kd.R_reads' H3_17.out).2.1) ((Kd.S_reads' W0_17.out).2.2) ((Kd.S_reads' W0_17.out).2.1) ((Kd.S_reads' W1_17.out).2.2) ((Kd.S_reads' W1_17.out).2.1) ((Kd.S_reads' W2_17.out).2.2) ((Kd.S_reads' W2_17.out).2.1) ((Kd.R_reads' W3_17.out).2.2) ((Kd.R_reads' W3_17.out).2.1) BU.out).mono ?_
  rintro e w18_ ⟨rfl, hb_⟩
  have HB18 := Aside0.mk (below_step HB17.out hb_)
  have hz18 : w17_.heap.size ≤ w18_.heap.size := hb_.size
  have BKW18 := Aside0.mk (blk_below BKW17.out hb_)
  clear BKW17
  have BKG18 := Aside0.mk (blk_below BKG17.out hb_)
  clear BKG17
  have BKH18 := Aside0.mk (blk_below BKH17.out hb_)
  clear BKH17
  have W0_18 := Aside0.mk (Kd.S_below W0_17.out hb_)
  clear W0_17
  have W1_18 := Aside0.mk (Kd.S_below W1_17.out hb_)
  clear W1_17
  have W2_18 := Aside0.mk (Kd.S_below W2_17.out hb_)
  clear W2_17
  have W3_18 := Aside0.mk (Kd.R_below W3_17.out hb_)
  clear W3_17
  have G0_18 := Aside0.mk (Kd.S_below G0_17.out hb_)
  clear G0_17
  have G1_18 := Aside0.mk (Kd.S_below G1_17.out hb_)
  clear G1_17
  have G2_18 := Aside0.mk (Kd.S_below G2_17.out hb_)
  clear G2_17
  have H0_18 := Aside0.mk (Kd.S_below H0_17.out hb_)
  clear H0_17
  have H1_18 := Aside0.mk (Kd.S_below H1_17.out hb_)
  clear H1_17
  have H2_18 := Aside0.mk (Kd.S_below H2_17.out hb_)
  clear H2_17
  have H3_18 := Aside0.mk (Kd.R_below H3_17.out hb_)
  clear H3_17
  clear hb_
  have hcW0_ : w18_.cell? ⟨w3_.heap.size, 0, none⟩ = some (.slice A_W0 r0.length c_W0) := (blk_cell BKW18.out 0).trans rfl
  have hfW0_ := blk_frozen BKW18.out 0
  have hcW1_ : w18_.cell? ⟨w3_.heap.size, 1, none⟩ = some (.slice A_W1 r1.length c_W1) := (blk_cell BKW18.out 1).trans rfl
  have hfW1_ := blk_frozen BKW18.out 1
  have hcW2_ : w18_.cell? ⟨w3_.heap.size, 2, none⟩ = some (.slice A_W2 r2.length c_W2) := (blk_cell BKW18.out 2).trans rfl
  have hfW2_ := blk_frozen BKW18.out 2
  have hcW3_ : w18_.cell? ⟨w3_.heap.size, 3, none⟩ = some (.slice A_W3 r3.length c_W3) := (blk_cell BKW18.out 3).trans rfl
  have hfW3_ := blk_frozen BKW18.out 3
  have hcG0_ : w18_.cell? ⟨w6_.heap.size, 0, none⟩ = some (.slice A_G0 q0.length c_G0) := (blk_cell BKG18.out 0).trans rfl
  have hfG0_ := blk_frozen BKG18.out 0
  have hcG1_ : w18_.cell? ⟨w6_.heap.size, 1, none⟩ = some (.slice A_G1 q1.length c_G1) := (blk_cell BKG18.out 1).trans rfl
  have hfG1_ := blk_frozen BKG18.out 1
  have hcG2_ : w18_.cell? ⟨w6_.heap.size, 2, none⟩ = some (.slice A_G2 q2.length c_G2) := (blk_cell BKG18.out 2).trans rfl
  have hfG2_ := blk_frozen BKG18.out 2
  have hcG3_ : w18_.cell? ⟨w6_.heap.size, 3, none⟩ = some (.slice none 0 0) := (blk_cell BKG18.out 3).trans rfl
  have hfG3_ := blk_frozen BKG18.out 3
  have hcH0_ : w18_.cell? ⟨w16_.heap.size, 0, none⟩ = some (.slice A_H0 q0.length c_H0) := (blk_cell BKH18.out 0).trans rfl
  have hfH0_ := blk_frozen BKH18.out 0
  have hcH1_ : w18_.cell? ⟨w16_.heap.size, 1, none⟩ = some (.slice A_H1 q1.length c_H1) := (blk_cell BKH18.out 1).trans rfl
  have hfH1_ := blk_frozen BKH18.out 1
  have hcH2_ : w18_.cell? ⟨w16_.heap.size, 2, none⟩ = some (.slice A_H2 q2.length c_H2) := (blk_cell BKH18.out 2).trans rfl
  have hfH2_ := blk_frozen BKH18.out 2
  have hcH3_ : w18_.cell? ⟨w16_.heap.size, 3, none⟩ = some (.slice A_H3 0 c_H3) := (blk_cell BKH18.out 3).trans rfl
  have hfH3_ := blk_frozen BKH18.out 3
  go_wp2_with fail
  clear hcW0_ hfW0_ hcW1_ hfW1_ hcW2_ hfW2_ hcW3_ hfW3_ hcG0_ hfG0_ hcG1_ hfG1_ hcG2_ hfG2_ hcG3_ hfG3_ hcH0_ hfH0_ hcH1_ hfH1_ hcH2_ hfH2_ hcH3_ hfH3_
  have hx0_ := Kd.S_reads' G0_18.out
  rw [EL0.out] at hx0_
  have hx1_ := Kd.S_reads' G1_18.out
  rw [EL1.out] at hx1_
  have hx2_ := Kd.S_reads' G2_18.out
  rw [EL2.out] at hx2_
  rw [EL0.out, EL1.out, EL2.out]
  refine (laws_heldFlood.calls k _ _ z0 _ _ z1 _ _ z2 none 0 [] 1 p0 w18_ hx0_.2.2 hx0_.2.1 hx1_.2.2 hx1_.2.1 hx2_.2.2 hx2_.2.1 (Kd.C_nil _ _) (Nat.le_refl 0) BH.out).mono ?_
  clear hx0_ hx1_ hx2_
  rintro e w19_ ⟨rfl, hb_⟩
  have HB19 := Aside0.mk (below_step HB18.out hb_)
  have hz19 : w18_.heap.size ≤ w19_.heap.size := hb_.size
  have BKW19 := Aside0.mk (blk_below BKW18.out hb_)
  clear BKW18
  have BKG19 := Aside0.mk (blk_below BKG18.out hb_)
  clear BKG18
  have BKH19 := Aside0.mk (blk_below BKH18.out hb_)
  clear BKH18
  have W0_19 := Aside0.mk (Kd.S_below W0_18.out hb_)
  clear W0_18
  have W1_19 := Aside0.mk (Kd.S_below W1_18.out hb_)
  clear W1_18
  have W2_19 := Aside0.mk (Kd.S_below W2_18.out hb_)
  clear W2_18
  have W3_19 := Aside0.mk (Kd.R_below W3_18.out hb_)
  clear W3_18
  have G0_19 := Aside0.mk (Kd.S_below G0_18.out hb_)
  clear G0_18
  have G1_19 := Aside0.mk (Kd.S_below G1_18.out hb_)
  clear G1_18
  have G2_19 := Aside0.mk (Kd.S_below G2_18.out hb_)
  clear G2_18
  have H0_19 := Aside0.mk (Kd.S_below H0_18.out hb_)
  clear H0_18
  have H1_19 := Aside0.mk (Kd.S_below H1_18.out hb_)
  clear H1_18
  have H2_19 := Aside0.mk (Kd.S_below H2_18.out hb_)
  clear H2_18
  have H3_19 := Aside0.mk (Kd.R_below H3_18.out hb_)
  clear H3_18
  clear hb_
  go_wp2
  go_ret
  exact ⟨rfl, HB19.out⟩

end Go.Proofs.Ytdbnjjpkpaifcaa.PFnExactNewFlood
