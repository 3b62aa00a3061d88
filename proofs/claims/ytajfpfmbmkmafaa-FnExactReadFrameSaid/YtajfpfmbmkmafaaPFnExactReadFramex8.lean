-- Written by a program of this project (myprint.py, by way of the kit's printer). Not trusted: Lean checks it.
import Derived.Test.YtajfpfmbmkmafaaPFnExactReadFramex0
import Derived.Test.YtajfpfmbmkmafaaPFnExactReadFramex1
import Derived.Test.YtajfpfmbmkmafaaPFnExactReadFramex2
import Derived.Test.YtajfpfmbmkmafaaPFnExactReadFramex5
import Derived.Test.YtajfpfmbmkmafaaPFnExactReadFramex6
import Derived.Test.YtajfpfmbmkmafaaPFnExactReadFramex7
namespace Go.Proofs.Ytajfpfmbmkmafaa.PFnExactReadFrame
open Go.RowKit Go.Proofs.YtajfpfmbmkmafaaW.PrintWords Go.Proofs.YtajfpfmbmkmafaaW.PrintLast Go.Proofs.YtajfpfmbmkmafaaW.PrintMore
attribute [local go_sem] max2_int min2_int max_two min_two max_three min_three max_four min_four   -- for this text's walks alone
set_option linter.unusedVariables false
set_option linter.unusedSimpArgs false

/-! ### impl_ReadFrame: function 40 -/
def impl_ReadFrame.l0 : Nat → ByteArray → List (S38) → Int → Option ((List (S38)) × Int × Int × Bool)
  | 0, _, _, _ => none
  | k + 1, x0, x6, x7 => if x0.toList = ([] : List UInt8) then (some (x6, x7, 0, true)) else ((impl_SkipPart.f x0).bind fun bt187 => (if bt187.2.2.2 = true then (if 0 ≤ (wrap64 (2 + bt187.2.1)) then (if (wrap64 (2 + bt187.2.1)) ≤ (x0.size : Int) then ((impl_in.f bt187.1 1 4).bind fun t191 => (if t191 = true then ((impl_partOf.f k bt187.1 bt187.2.2.1).bind fun bt192 => (if bt192.2.2.2 = true then (if (x6.length : Int) = 10 then (some (([] : List (S38)), 0, 3, false)) else (if x6.length < 2932031007402 then (impl_ReadFrame.l0 k (x0.extract ((wrap64 (2 + bt187.2.1)) : Int).toNat x0.size) (x6 ++ [(⟨bt192.1, bt192.2.1, bt192.2.2.1⟩ : S38)]) x7) else (none))) else (some (([] : List (S38)), 0, 2, false)))) else (impl_ReadFrame.l0 k (x0.extract ((wrap64 (2 + bt187.2.1)) : Int).toNat x0.size) x6 (wrap64 (x7 + 1))))) else (none)) else (none)) else (some (([] : List (S38)), 0, 1, false))))
def impl_ReadFrame.f (k : Nat) (a0 : ByteArray) : Option ((List (S38)) × Int × Int × Bool) := if (a0.size : Int) > 200 then (some (([] : List (S38)), 0, 0, false)) else (impl_ReadFrame.l0 k a0 ([] : List (S38)) 0)
theorem impl_ReadFrame.mono_l : ∀ k, (∀ y0 y1 y2, LeO (impl_ReadFrame.l0 k y0 y1 y2) (impl_ReadFrame.l0 (k + 1) y0 y1 y2))
  | 0 => fun _ _ _ r h => by simp [impl_ReadFrame.l0] at h
  | k + 1 => by
    have ih0 := impl_ReadFrame.mono_l k
    · intro y0 y1 y2
      unfold impl_ReadFrame.l0
      repeat' first
      | (with_reducible exact ih0 _ _ _)
      | (with_reducible exact impl_partOf.mono _ _ _)
      | (with_reducible exact LeO.refl _)
      | (with_reducible exact LeO.none _)
      | (with_reducible refine LeO.ite ?_ ?_)
      | (with_reducible refine LeO.bind ?_ (fun _ => ?_))
      | exact ih0 _ _ _
      | exact impl_partOf.mono _ _ _
      | exact LeO.none _
      | refine LeO.ite ?_ ?_
      | refine LeO.bind ?_ (fun _ => ?_)
theorem impl_ReadFrame.mono : ∀ a0 k, LeO (impl_ReadFrame.f k a0) (impl_ReadFrame.f (k + 1) a0) := by
  intro a0 k
  have ih0 := impl_ReadFrame.mono_l k
  unfold impl_ReadFrame.f
  repeat' first
      | (with_reducible exact ih0 _ _ _)
      | (with_reducible exact impl_partOf.mono _ _ _)
      | (with_reducible exact LeO.refl _)
      | (with_reducible exact LeO.none _)
      | (with_reducible refine LeO.ite ?_ ?_)
      | (with_reducible refine LeO.bind ?_ (fun _ => ?_))
      | exact ih0 _ _ _
      | exact impl_partOf.mono _ _ _
      | exact LeO.none _
      | refine LeO.ite ?_ ?_
      | refine LeO.bind ?_ (fun _ => ?_)
set_option maxHeartbeats 8000000 in
set_option maxRecDepth 100000 in
theorem impl_ReadFrame.calls (k : Nat) (a0 : ByteArray) (r1 : List (S38)) (r2 : Int) (r3 : Int) (r4 : Bool) (w : World) (h : impl_ReadFrame.f k a0 = some (r1, r2, r3, r4)) :
    Calls Try.prog 40 #[.string a0] w fun e w' => ∃ v0_ : Value, e = .returned (.tuple #[v0_, .int .i64 r2, .int .i64 r3, .bool r4]) ∧ Kd.S k38 38 w' w.heap.size (fun _ => True) v0_ r1 ∧ Below w.heap.size w w' := by
  have hu38 := Try.underlying38
  have HB := Aside0.mk (Below.refl w.heap.size w)
  have H : (if (a0.size : Int) > 200 then (some (([] : List (S38)), 0, 0, false)) else (impl_ReadFrame.l0 k a0 ([] : List (S38)) 0)) = some (r1, r2, r3, r4) := h
  clear h
  by_cases c2 : (a0.size : Int) > 200
  · rw [if_pos c2] at H
    have c2b0 : decide (200 < (a0.size : Int)) = true := decide_eq_true c2
    have c2b1 : decide (200 < a0.size) = true := decide_eq_true (by omega)
    clear c2
    simp only [Option.some.injEq, Prod.mk.injEq] at H
    obtain ⟨rfl, rfl, rfl, rfl⟩ := H
    go_enter Try.func40, Try.ntmps40
    go_wp2
    refine bodyPost_ret (results_list (rs := [.tmp 2, .tmp 3, .tmp 4, .tmp 5]) rfl (by simp) (.tmp (.tmp (.tmp (.tmp .nil))))) rfl ?_
    exact ⟨_, by first | rfl | (simp [errW_none, errW_some] <;> rfl) | (simp [*, errW_none, errW_some] <;> rfl), by first | exact Kd.S_nil _ _ _ _ _ | exact Kd.N_nil _ _ _ _ _ | exact Kd.V_nil _ _ _ _ _ | exact Kd.Q_nil _ _ _ _ _ | exact Kd.R_nil _ _ _ _ _, by repeat (first | (with_reducible first | exact HB.out | apply below_alloc | apply pw_below_drewN | apply below_drew1) | exact HB.out)⟩
  · rw [if_neg c2] at H
    have c2b0 : decide (200 < (a0.size : Int)) = false := decide_eq_false c2
    have c2b1 : decide (200 < a0.size) = false := decide_eq_false (by omega)
    clear c2
    have H' := Aside0.mk H
    clear H
    go_enter Try.func40, Try.ntmps40
    go_wp2
    go_loopg [0, 6, 7] k (fun kq v0 v6 v7 w' => ∃ (x0_1 : ByteArray) (x6_1 : List (S38)) (x7_1 : Int), v0 = .string x0_1 ∧ v7 = .int .i64 x7_1 ∧ Aside0 (impl_ReadFrame.l0 kq x0_1 x6_1 x7_1 = some (r1, r2, r3, r4)) ∧ Aside0 (kq ≤ k) ∧ Aside0 (Kd.S k38 38 w' w.heap.size (fun _ => True) v6 x6_1) ∧ Aside0 (Below w.heap.size w w'))
    case atStart => exact ⟨(a0), (([] : List (S38))), (0), (by first | rfl | (simp; done) | (simp [*]; done)), (by first | rfl | (simp; done) | (simp [*]; done)), H', ⟨Nat.le_refl _⟩, ⟨by first | exact Kd.S_nil _ _ _ _ _ | exact Kd.N_nil _ _ _ _ _ | exact Kd.V_nil _ _ _ _ _ | exact Kd.Q_nil _ _ _ _ _ | exact Kd.R_nil _ _ _ _ _⟩, ⟨by repeat (first | (with_reducible first | exact HB.out | apply below_alloc | apply pw_below_drewN | apply below_drew1) | exact HB.out)⟩⟩
    case round =>
      clear H'
      try clear c2
      try clear c2b0
      try clear c2b1
      try clear p2
      obtain ⟨x0_1, x6_1, x7_1, rfl, rfl, HA, HK1, HO_6, HB⟩ := hrel
      cases gk with
      | zero => exact absurd HA.out (by simp [impl_ReadFrame.l0])
      | succ k1 =>
        have H := HA.out
        clear HA
        simp only [impl_ReadFrame.l0] at H
        by_cases c3 : x0_1.toList = ([] : List UInt8)
        · rw [if_pos c3] at H
          have c3b0 : (x0_1.toList == ([] : List UInt8)) = true := beq_iff_eq.mpr c3
          have c3b1 : (x0_1.toList != ([] : List UInt8)) = false := bne_eq_false_iff_eq.mpr c3
          clear c3
          simp only [Option.some.injEq, Prod.mk.injEq] at H
          obtain ⟨rfl, rfl, rfl, rfl⟩ := H
          go_wp2
          refine bodyPost_ret (results_list (rs := [.tmp 2, .tmp 3, .tmp 4, .tmp 5]) rfl (by simp) (.tmp (.tmp (.tmp (.tmp .nil))))) rfl ?_
          exact ⟨_, by first | rfl | (simp [errW_none, errW_some] <;> rfl) | (simp [*, errW_none, errW_some] <;> rfl), by (with_reducible repeat (first | apply Kd.S_alloc | apply Kd.S_drewN | apply Kd.S_drew)); exact HO_6.out, by repeat (first | (with_reducible first | exact HB.out | apply below_alloc | apply pw_below_drewN | apply below_drew1) | exact HB.out)⟩
        · rw [if_neg c3] at H
          have c3b0 : (x0_1.toList == ([] : List UInt8)) = false := beq_eq_false_iff_ne.mpr c3
          have c3b1 : (x0_1.toList != ([] : List UInt8)) = true := bne_iff_ne.mpr c3
          replace H := Option.bind_eq_some_iff.mp H
          obtain ⟨⟨t187, t188, t189, t190⟩, A40, H⟩ := H
          replace H : (if t190 = true then (if 0 ≤ (wrap64 (2 + t188)) then (if (wrap64 (2 + t188)) ≤ (x0_1.size : Int) then ((impl_in.f t187 1 4).bind fun t191 => (if t191 = true then ((impl_partOf.f k1 t187 t189).bind fun bt192 => (if bt192.2.2.2 = true then (if (x6_1.length : Int) = 10 then (some (([] : List (S38)), 0, 3, false)) else (if x6_1.length < 2932031007402 then (impl_ReadFrame.l0 k1 (x0_1.extract ((wrap64 (2 + t188)) : Int).toNat x0_1.size) (x6_1 ++ [(⟨bt192.1, bt192.2.1, bt192.2.2.1⟩ : S38)]) x7_1) else (none))) else (some (([] : List (S38)), 0, 2, false)))) else (impl_ReadFrame.l0 k1 (x0_1.extract ((wrap64 (2 + t188)) : Int).toNat x0_1.size) x6_1 (wrap64 (x7_1 + 1))))) else (none)) else (none)) else (some (([] : List (S38)), 0, 1, false))) = some (r1, r2, r3, r4) := H
          have A4 := Aside0.mk A40
          clear A40
          by_cases c5 : t190 = true
          · subst c5
            have H1 : (if 0 ≤ (wrap64 (2 + t188)) then (if (wrap64 (2 + t188)) ≤ (x0_1.size : Int) then ((impl_in.f t187 1 4).bind fun t191 => (if t191 = true then ((impl_partOf.f k1 t187 t189).bind fun bt192 => (if bt192.2.2.2 = true then (if (x6_1.length : Int) = 10 then (some (([] : List (S38)), 0, 3, false)) else (if x6_1.length < 2932031007402 then (impl_ReadFrame.l0 k1 (x0_1.extract ((wrap64 (2 + t188)) : Int).toNat x0_1.size) (x6_1 ++ [(⟨bt192.1, bt192.2.1, bt192.2.2.1⟩ : S38)]) x7_1) else (none))) else (some (([] : List (S38)), 0, 2, false)))) else (impl_ReadFrame.l0 k1 (x0_1.extract ((wrap64 (2 + t188)) : Int).toNat x0_1.size) x6_1 (wrap64 (x7_1 + 1))))) else (none)) else (none)) = some (r1, r2, r3, r4) := by rw [if_pos rfl] at H; exact H
            clear H
            have H := H1
            clear H1
            obtain ⟨ji6, hji6⟩ : ∃ j_ : Int, (wrap64 (2 + t188)) = j_ := ⟨_, rfl⟩
            replace H : (if 0 ≤ (ji6) then (if (ji6) ≤ (x0_1.size : Int) then ((impl_in.f t187 1 4).bind fun t191 => (if t191 = true then ((impl_partOf.f k1 t187 t189).bind fun bt192 => (if bt192.2.2.2 = true then (if (x6_1.length : Int) = 10 then (some (([] : List (S38)), 0, 3, false)) else (if x6_1.length < 2932031007402 then (impl_ReadFrame.l0 k1 (x0_1.extract ((ji6) : Int).toNat x0_1.size) (x6_1 ++ [(⟨bt192.1, bt192.2.1, bt192.2.2.1⟩ : S38)]) x7_1) else (none))) else (some (([] : List (S38)), 0, 2, false)))) else (impl_ReadFrame.l0 k1 (x0_1.extract ((ji6) : Int).toNat x0_1.size) x6_1 (wrap64 (x7_1 + 1))))) else (none)) else (none)) = some (r1, r2, r3, r4) := by first | (rw [hji6] at H; exact H) | (simp only [hji6] at H ⊢; exact H)
            (try rw [hji6] at A4)
            have hji6w : (IntKind.i64.wrap (2 + t188)) = ji6 := (i64_w _).trans hji6
            by_cases c7 : 0 ≤ (ji6)
            · rw [if_pos c7] at H
              have c7b0 := eq_true c7
              have c7b1 : decide (0 ≤ (ji6)) = true := decide_eq_true c7
              clear c7
              by_cases c8 : (ji6) ≤ (x0_1.size : Int)
              · rw [if_pos c8] at H
                have c8b0 := eq_true c8
                have c8b1 : decide ((ji6) ≤ (x0_1.size : Int)) = true := decide_eq_true c8
                clear c8
                replace H := Option.bind_eq_some_iff.mp H
                obtain ⟨t191, A90, H⟩ := H
                replace H : (if t191 = true then ((impl_partOf.f k1 t187 t189).bind fun bt192 => (if bt192.2.2.2 = true then (if (x6_1.length : Int) = 10 then (some (([] : List (S38)), 0, 3, false)) else (if x6_1.length < 2932031007402 then (impl_ReadFrame.l0 k1 (x0_1.extract ((ji6) : Int).toNat x0_1.size) (x6_1 ++ [(⟨bt192.1, bt192.2.1, bt192.2.2.1⟩ : S38)]) x7_1) else (none))) else (some (([] : List (S38)), 0, 2, false)))) else (impl_ReadFrame.l0 k1 (x0_1.extract ((ji6) : Int).toNat x0_1.size) x6_1 (wrap64 (x7_1 + 1)))) = some (r1, r2, r3, r4) := H
                have A9 := Aside0.mk A90
                clear A90
                by_cases c10 : t191 = true
                · subst c10
                  have H1 : ((impl_partOf.f k1 t187 t189).bind fun bt192 => (if bt192.2.2.2 = true then (if (x6_1.length : Int) = 10 then (some (([] : List (S38)), 0, 3, false)) else (if x6_1.length < 2932031007402 then (impl_ReadFrame.l0 k1 (x0_1.extract ((ji6) : Int).toNat x0_1.size) (x6_1 ++ [(⟨bt192.1, bt192.2.1, bt192.2.2.1⟩ : S38)]) x7_1) else (none))) else (some (([] : List (S38)), 0, 2, false)))) = some (r1, r2, r3, r4) := by rw [if_pos rfl] at H; exact H
                  clear H
                  have H := H1
                  clear H1
                  replace H := Option.bind_eq_some_iff.mp H
                  obtain ⟨⟨t192, t193, t194, t197⟩, A110, H⟩ := H
                  replace H : (if t197 = true then (if (x6_1.length : Int) = 10 then (some (([] : List (S38)), 0, 3, false)) else (if x6_1.length < 2932031007402 then (impl_ReadFrame.l0 k1 (x0_1.extract ((ji6) : Int).toNat x0_1.size) (x6_1 ++ [(⟨t192, t193, t194⟩ : S38)]) x7_1) else (none))) else (some (([] : List (S38)), 0, 2, false))) = some (r1, r2, r3, r4) := H
                  have A11 := Aside0.mk A110
                  clear A110
                  by_cases c12 : t197 = true
                  · subst c12
                    have H1 : (if (x6_1.length : Int) = 10 then (some (([] : List (S38)), 0, 3, false)) else (if x6_1.length < 2932031007402 then (impl_ReadFrame.l0 k1 (x0_1.extract ((ji6) : Int).toNat x0_1.size) (x6_1 ++ [(⟨t192, t193, t194⟩ : S38)]) x7_1) else (none))) = some (r1, r2, r3, r4) := by rw [if_pos rfl] at H; exact H
                    clear H
                    have H := H1
                    clear H1
                    by_cases c13 : (x6_1.length : Int) = 10
                    · rw [if_pos c13] at H
                      have c13b0 : ((x6_1.length : Int) == 10) = true := beq_iff_eq.mpr c13
                      have c13b1 : ((x6_1.length : Int) != 10) = false := bne_eq_false_iff_eq.mpr c13
                      clear c13
                      simp only [Option.some.injEq, Prod.mk.injEq] at H
                      obtain ⟨rfl, rfl, rfl, rfl⟩ := H
                      go_wp2_with (first | ((with_reducible refine gate_callee (f := 14) rfl ?_); refine goesL_ (some 21) rfl rfl Try.func14 (by kernel_rfl) rfl #[.string x0_1] rfl (by (try simp only [List.map_toArray, List.map_cons, List.map_nil]); first | done | rfl | (simp only [List.length_drop, List.length_take]; rfl)) ?_; (with_reducible refine (impl_SkipPart.calls x0_1 t187 t188 t189 true _ A4.out).mono ?_); rintro e w' ⟨rfl, ⟨nd, rfl⟩⟩; refine ⟨_, rfl, ?_⟩; (try (rw [drewN_self wr]; generalize hq_ : World.drewN wr _ = wr; have n0_ : Aside0 (Kd.S k38 38 wr w.heap.size (fun _ => True) u6 x6_1) := ⟨by rw [← hq_]; exact (by (with_reducible repeat (first | apply Kd.S_alloc | apply Kd.S_drewN | apply Kd.S_drew)); exact HO_6.out)⟩; have n1_ : Aside0 (Below w.heap.size w wr) := ⟨by rw [← hq_]; exact (by repeat (first | (with_reducible first | exact HB.out | apply below_alloc | apply pw_below_drewN | apply below_drew1) | exact HB.out))⟩; clear HO_6 HB hq_; have HO_6 := n0_; have HB := n1_; clear n0_ n1_))) | ((with_reducible refine gate_callee (f := 58) rfl ?_); refine goesL_ (some 33) rfl rfl Try.func58 (by kernel_rfl) rfl #[.int .i64 t187, .int .i64 1, .int .i64 4] rfl (by (try simp only [List.map_toArray, List.map_cons, List.map_nil]); first | done | rfl | (simp only [List.length_drop, List.length_take]; rfl)) ?_; (with_reducible refine (impl_in.calls t187 1 4 true _ A9.out).mono ?_); rintro e w' ⟨rfl, ⟨nd, rfl⟩⟩; refine ⟨_, rfl, ?_⟩; (try (rw [drewN_self wr]; generalize hq_ : World.drewN wr _ = wr; have n0_ : Aside0 (Kd.S k38 38 wr w.heap.size (fun _ => True) u6 x6_1) := ⟨by rw [← hq_]; exact (by (with_reducible repeat (first | apply Kd.S_alloc | apply Kd.S_drewN | apply Kd.S_drew)); exact HO_6.out)⟩; have n1_ : Aside0 (Below w.heap.size w wr) := ⟨by rw [← hq_]; exact (by repeat (first | (with_reducible first | exact HB.out | apply below_alloc | apply pw_below_drewN | apply below_drew1) | exact HB.out))⟩; clear HO_6 HB hq_; have HO_6 := n0_; have HB := n1_; clear n0_ n1_))) | ((with_reducible refine gate_callee (f := 68) rfl ?_); refine goesL_ (some 40) rfl rfl Try.func68 (by kernel_rfl) rfl #[.int .i64 t187, .string t189] rfl (by (try simp only [List.map_toArray, List.map_cons, List.map_nil]); first | done | rfl | (simp only [List.length_drop, List.length_take]; rfl)) ?_; (with_reducible refine (impl_partOf.calls k1 t187 t189 t192 t193 t194 true _ A11.out).mono ?_); rintro e w14 ⟨v195, rfl, ho0, hb⟩; refine ⟨_, rfl, ?_⟩; have n0_ := Aside0.mk (Kd.S_elder' (by (with_reducible repeat (first | apply Kd.S_alloc | apply Kd.S_drewN | apply Kd.S_drew)); exact HO_6.out) (Kd.R_base ho0) hb); have n1_ := Aside0.mk (Kd.R_lower ho0 (below_size (by repeat (first | (with_reducible first | exact HB.out | apply below_alloc | apply pw_below_drewN | apply below_drew1) | exact HB.out)))); have n2_ := Aside0.mk (below_step (by repeat (first | (with_reducible first | exact HB.out | apply below_alloc | apply pw_below_drewN | apply below_drew1) | exact HB.out)) hb); clear HO_6; clear HB; have HO_6 := n0_; have HO196 := n1_; have HB := n2_; clear n0_ n1_ n2_; (try clear hb); (try clear hb2); (try clear hk); (try clear hi); (try clear ho0)) | ((with_reducible refine gate_dst (N := 12) rfl ?_); refine box_event ?hg (N := 12) ?hd (cs := #[.int .i64 0, .string (⟨#[]⟩ : ByteArray), .slice none 0 0]) (t := 38) ?hr ?_; (case hd => rfl); (case hg => rfl); (case hr => first | (go_simp; done) | (go_simp; rfl)); intro gb198 hg w15 hbox hb; have n0_ := Aside0.mk (Kd.S_below (Kd.S_elderB (by (with_reducible repeat (first | apply Kd.S_alloc | apply Kd.S_drewN | apply Kd.S_drew)); exact HO_6.out) gb198 (Nat.le_of_eq hg.symm)) hb); have n1_ := Aside0.mk (Kd.R_below (by (with_reducible repeat (first | apply Kd.R_alloc | apply Kd.R_drewN | apply Kd.R_drew)); exact HO196.out) hb); have n2_ := Aside0.mk (below_step (by repeat (first | (with_reducible first | exact HB.out | apply below_alloc | apply pw_below_drewN | apply below_drew1) | exact HB.out)) hb); have n3_ := Aside0.mk (hbox); have n4_ := Aside0.mk ((by rw [hg]; exact (below_size (by repeat (first | (with_reducible first | exact HB.out | apply below_alloc | apply pw_below_drewN | apply below_drew1) | exact HB.out))) : w.heap.size ≤ gb198)); have n5_ := Aside0.mk ((by rw [hg]; exact (below_size (by repeat (first | (with_reducible first | exact HB.out | apply below_alloc | apply pw_below_drewN | apply below_drew1) | exact HB.out))) : w.heap.size ≤ gb198)); clear HO_6; clear HO196; clear HB; have HO_6 := n0_; have HO196 := n1_; have HB := n2_; have BK198 := n3_; have GW198 := n4_; have GE198 := n5_; clear n0_ n1_ n2_ n3_ n4_ n5_; clear hb hbox hg; have hcz16_0 : w15.cell? ⟨gb198, 0, none⟩ = some (.int .i64 0) := (blk_cell BK198.out 0).trans rfl; have hcz16_1 : w15.cell? ⟨gb198, 1, none⟩ = some (.string (⟨#[]⟩ : ByteArray)) := (blk_cell BK198.out 1).trans rfl; have hcz16_2 : w15.cell? ⟨gb198, 2, none⟩ = some (.slice none 0 0) := (blk_cell BK198.out 2).trans rfl; have hfz16_0 := blk_frozen BK198.out 0; have hfz16_1 := blk_frozen BK198.out 1; have hfz16_2 := blk_frozen BK198.out 2; obtain ⟨Ao17, co17, eo17⟩ := Kd.R_slice HO196.out; subst eo17; obtain ⟨Ao18, co18, eo18⟩ := Kd.S_slice HO_6.out; subst eo18))
                      refine bodyPost_ret (results_list (rs := [.tmp 2, .tmp 3, .tmp 4, .tmp 5]) rfl (by simp) (.tmp (.tmp (.tmp (.tmp .nil))))) rfl ?_
                      exact ⟨_, by first | rfl | (simp [errW_none, errW_some] <;> rfl) | (simp only [← hji6]; first | rfl | (simp [errW_none, errW_some] <;> rfl)) | (simp [*, errW_none, errW_some] <;> rfl), by first | exact Kd.S_nil _ _ _ _ _ | exact Kd.N_nil _ _ _ _ _ | exact Kd.V_nil _ _ _ _ _ | exact Kd.Q_nil _ _ _ _ _ | exact Kd.R_nil _ _ _ _ _, by repeat (first | (with_reducible first | exact HB.out | apply below_alloc | apply pw_below_drewN | apply below_drew1 | refine below_set ?_ GE198.out) | exact HB.out)⟩
                    · rw [if_neg c13] at H
                      have c13b0 : ((x6_1.length : Int) == 10) = false := beq_eq_false_iff_ne.mpr c13
                      have c13b1 : ((x6_1.length : Int) != 10) = true := bne_iff_ne.mpr c13
                      by_cases c19 : x6_1.length < 2932031007402
                      · rw [if_pos c19] at H
                        have LMc19 := Aside0.mk c19
                        clear c19
                        obtain ⟨y199, hy199⟩ : ∃ y_ : List (S38), y_ = (x6_1 ++ [(⟨t192, t193, t194⟩ : S38)]) := ⟨_, rfl⟩
                        replace H : (impl_ReadFrame.l0 k1 (x0_1.extract ((ji6) : Int).toNat x0_1.size) y199 x7_1) = some (r1, r2, r3, r4) := by first | (rw [hy199]; with_reducible exact H) | (have H2_ := (Option.bind_some _ _).symm.trans H; rw [hy199]; with_reducible exact H2_) | (have H2_ := (Option.bind_some _ _).symm.trans H; with_reducible exact H2_) | with_reducible exact H | (rw [hy199]; exact H) | exact H
                        have Ny199 := Aside0.mk hy199
                        clear hy199
                        have H' := Aside0.mk H
                        clear H
                        go_wp2_with (first | ((with_reducible refine gate_callee (f := 14) rfl ?_); refine goesL_ (some 21) rfl rfl Try.func14 (by kernel_rfl) rfl #[.string x0_1] rfl (by (try simp only [List.map_toArray, List.map_cons, List.map_nil]); first | done | rfl | (simp only [List.length_drop, List.length_take]; rfl)) ?_; (with_reducible refine (impl_SkipPart.calls x0_1 t187 t188 t189 true _ A4.out).mono ?_); rintro e w' ⟨rfl, ⟨nd, rfl⟩⟩; refine ⟨_, rfl, ?_⟩; (try (rw [drewN_self wr]; generalize hq_ : World.drewN wr _ = wr; have n0_ : Aside0 (Kd.S k38 38 wr w.heap.size (fun _ => True) u6 x6_1) := ⟨by rw [← hq_]; exact (by (with_reducible repeat (first | apply Kd.S_alloc | apply Kd.S_drewN | apply Kd.S_drew)); exact HO_6.out)⟩; have n1_ : Aside0 (Below w.heap.size w wr) := ⟨by rw [← hq_]; exact (by repeat (first | (with_reducible first | exact HB.out | apply below_alloc | apply pw_below_drewN | apply below_drew1) | exact HB.out))⟩; clear HO_6 HB hq_; have HO_6 := n0_; have HB := n1_; clear n0_ n1_))) | ((with_reducible refine gate_callee (f := 58) rfl ?_); refine goesL_ (some 33) rfl rfl Try.func58 (by kernel_rfl) rfl #[.int .i64 t187, .int .i64 1, .int .i64 4] rfl (by (try simp only [List.map_toArray, List.map_cons, List.map_nil]); first | done | rfl | (simp only [List.length_drop, List.length_take]; rfl)) ?_; (with_reducible refine (impl_in.calls t187 1 4 true _ A9.out).mono ?_); rintro e w' ⟨rfl, ⟨nd, rfl⟩⟩; refine ⟨_, rfl, ?_⟩; (try (rw [drewN_self wr]; generalize hq_ : World.drewN wr _ = wr; have n0_ : Aside0 (Kd.S k38 38 wr w.heap.size (fun _ => True) u6 x6_1) := ⟨by rw [← hq_]; exact (by (with_reducible repeat (first | apply Kd.S_alloc | apply Kd.S_drewN | apply Kd.S_drew)); exact HO_6.out)⟩; have n1_ : Aside0 (Below w.heap.size w wr) := ⟨by rw [← hq_]; exact (by repeat (first | (with_reducible first | exact HB.out | apply below_alloc | apply pw_below_drewN | apply below_drew1) | exact HB.out))⟩; clear HO_6 HB hq_; have HO_6 := n0_; have HB := n1_; clear n0_ n1_))) | ((with_reducible refine gate_callee (f := 68) rfl ?_); refine goesL_ (some 40) rfl rfl Try.func68 (by kernel_rfl) rfl #[.int .i64 t187, .string t189] rfl (by (try simp only [List.map_toArray, List.map_cons, List.map_nil]); first | done | rfl | (simp only [List.length_drop, List.length_take]; rfl)) ?_; (with_reducible refine (impl_partOf.calls k1 t187 t189 t192 t193 t194 true _ A11.out).mono ?_); rintro e w20 ⟨v195, rfl, ho0, hb⟩; refine ⟨_, rfl, ?_⟩; have n0_ := Aside0.mk (Kd.S_elder' (by (with_reducible repeat (first | apply Kd.S_alloc | apply Kd.S_drewN | apply Kd.S_drew)); exact HO_6.out) (Kd.R_base ho0) hb); have n1_ := Aside0.mk (Kd.R_lower ho0 (below_size (by repeat (first | (with_reducible first | exact HB.out | apply below_alloc | apply pw_below_drewN | apply below_drew1) | exact HB.out)))); have n2_ := Aside0.mk (below_step (by repeat (first | (with_reducible first | exact HB.out | apply below_alloc | apply pw_below_drewN | apply below_drew1) | exact HB.out)) hb); clear HO_6; clear HB; have HO_6 := n0_; have HO196 := n1_; have HB := n2_; clear n0_ n1_ n2_; (try clear hb); (try clear hb2); (try clear hk); (try clear hi); (try clear ho0)) | ((with_reducible refine gate_dst (N := 12) rfl ?_); refine box_event ?hg (N := 12) ?hd (cs := #[.int .i64 0, .string (⟨#[]⟩ : ByteArray), .slice none 0 0]) (t := 38) ?hr ?_; (case hd => rfl); (case hg => rfl); (case hr => first | (go_simp; done) | (go_simp; rfl)); intro gb198 hg w21 hbox hb; have n0_ := Aside0.mk (Kd.S_below (Kd.S_elderB (by (with_reducible repeat (first | apply Kd.S_alloc | apply Kd.S_drewN | apply Kd.S_drew)); exact HO_6.out) gb198 (Nat.le_of_eq hg.symm)) hb); have n1_ := Aside0.mk (Kd.R_below (by (with_reducible repeat (first | apply Kd.R_alloc | apply Kd.R_drewN | apply Kd.R_drew)); exact HO196.out) hb); have n2_ := Aside0.mk (below_step (by repeat (first | (with_reducible first | exact HB.out | apply below_alloc | apply pw_below_drewN | apply below_drew1) | exact HB.out)) hb); have n3_ := Aside0.mk (hbox); have n4_ := Aside0.mk ((by rw [hg]; exact (below_size (by repeat (first | (with_reducible first | exact HB.out | apply below_alloc | apply pw_below_drewN | apply below_drew1) | exact HB.out))) : w.heap.size ≤ gb198)); have n5_ := Aside0.mk ((by rw [hg]; exact (below_size (by repeat (first | (with_reducible first | exact HB.out | apply below_alloc | apply pw_below_drewN | apply below_drew1) | exact HB.out))) : w.heap.size ≤ gb198)); clear HO_6; clear HO196; clear HB; have HO_6 := n0_; have HO196 := n1_; have HB := n2_; have BK198 := n3_; have GW198 := n4_; have GE198 := n5_; clear n0_ n1_ n2_ n3_ n4_ n5_; clear hb hbox hg; have hcz22_0 : w21.cell? ⟨gb198, 0, none⟩ = some (.int .i64 0) := (blk_cell BK198.out 0).trans rfl; have hcz22_1 : w21.cell? ⟨gb198, 1, none⟩ = some (.string (⟨#[]⟩ : ByteArray)) := (blk_cell BK198.out 1).trans rfl; have hcz22_2 : w21.cell? ⟨gb198, 2, none⟩ = some (.slice none 0 0) := (blk_cell BK198.out 2).trans rfl; have hfz22_0 := blk_frozen BK198.out 0; have hfz22_1 := blk_frozen BK198.out 1; have hfz22_2 := blk_frozen BK198.out 2; obtain ⟨Ao23, co23, eo23⟩ := Kd.R_slice HO196.out; subst eo23) | ((with_reducible refine gate_store (t := 38) (p := 12) rfl ?_); refine store_event (t := 38) (p := 12) (v := ?vo_w24) (w1 := (((w21.setCell ⟨gb198, 0, none⟩ (.int .i64 t192)).setCell ⟨gb198, 1, none⟩ (.string t193)).setCell ⟨gb198, 2, none⟩ (.slice Ao23 t194.length co23))) ?hg ?ho ?hn ?hr ?_; (case ho => rfl); (case hg => rfl); (case hn => rfl); (case hr => first | (go_simp; done) | (go_simp; rfl)); intro w24 hw; have n0_ : Aside0 (Kd.S k38 38 w24 w.heap.size (fun k_ => some k_ ≠ (.slice Ao23 t194.length co23 : Value).ownBlock ∧ k_ ≠ gb198) u6 x6_1) := ⟨(by rw [hw]; exact (by (with_reducible repeat (first | apply Kd.S_alloc | apply Kd.S_drewN | apply Kd.S_drew)); exact Kd.S_mono (Kd.S_far (p := ⟨gb198, 2, none⟩) (Kd.S_far (p := ⟨gb198, 1, none⟩) (Kd.S_far (p := ⟨gb198, 0, none⟩) (Kd.S_mono HO_6.out (fun k_ hk => (⟨hk, hk.2⟩ : _ ∧ k_ ≠ gb198))) (fun _ hk => hk.2) (.int .i64 t192)) (fun _ hk => hk.2) (.string t193)) (fun _ hk => hk.2) (.slice Ao23 t194.length co23)) (fun _ hk => ⟨hk.1.1.2, hk.1.2⟩)))⟩; have n1_ : Aside0 (Kd.R (Kd.int .i64) 3 w24 w.heap.size (fun _ => True) (.slice Ao23 t194.length co23) t194) := ⟨(by rw [hw]; exact (by (with_reducible repeat (first | apply Kd.R_alloc | apply Kd.R_drewN | apply Kd.R_drew)); exact Kd.R_mono (Kd.R_far (p := ⟨gb198, 2, none⟩) (Kd.R_far (p := ⟨gb198, 1, none⟩) (Kd.R_far (p := ⟨gb198, 0, none⟩) (Kd.R_types HO196.out BK198.out (by decide)) (fun _ hk => hk.2) (.int .i64 t192)) (fun _ hk => hk.2) (.string t193)) (fun _ hk => hk.2) (.slice Ao23 t194.length co23)) (fun _ hk => trivial)))⟩; have n2_ : Aside0 (w24.heap[gb198]? = some (.cells #[.int .i64 t192, .string t193, .slice Ao23 t194.length co23] 38 (0, 0))) := ⟨(by rw [hw]; exact (by (with_reducible repeat (first | refine blk_drewN ?_ _ | refine blk_drew ?_ | refine blk_alloc ?_ _)); refine blk_put (cs := #[.int .i64 t192, .string t193, .slice none 0 0]) ?_ 2 _ rfl; (with_reducible repeat (first | refine blk_drewN ?_ _ | refine blk_drew ?_ | refine blk_alloc ?_ _)); refine blk_put (cs := #[.int .i64 t192, .string (⟨#[]⟩ : ByteArray), .slice none 0 0]) ?_ 1 _ rfl; (with_reducible repeat (first | refine blk_drewN ?_ _ | refine blk_drew ?_ | refine blk_alloc ?_ _)); refine blk_put (cs := #[.int .i64 0, .string (⟨#[]⟩ : ByteArray), .slice none 0 0]) ?_ 0 _ rfl; (with_reducible repeat (first | refine blk_drewN ?_ _ | refine blk_drew ?_ | refine blk_alloc ?_ _)); exact BK198.out))⟩; have n3_ : Aside0 (Below w.heap.size w w24) := ⟨(by rw [hw]; exact (by repeat (first | (with_reducible first | exact HB.out | apply below_alloc | apply pw_below_drewN | apply below_drew1 | refine below_set ?_ GE198.out) | exact HB.out)))⟩; clear hw; clear HO_6; clear HO196; clear BK198; clear HB; have HO_6 := n0_; have HO196 := n1_; have BK198 := n2_; have HB := n3_; clear n0_ n1_ n2_ n3_; obtain ⟨Ao25, co25, eo25⟩ := Kd.S_slice HO_6.out; subst eo25; have hcz26_0 : w24.cell? ⟨gb198, 0, none⟩ = some (.int .i64 t192) := (blk_cell BK198.out 0).trans rfl; have hcz26_1 : w24.cell? ⟨gb198, 1, none⟩ = some (.string t193) := (blk_cell BK198.out 1).trans rfl; have hcz26_2 : w24.cell? ⟨gb198, 2, none⟩ = some (.slice Ao23 t194.length co23) := (blk_cell BK198.out 2).trans rfl; have hfz26_0 := blk_frozen BK198.out 0; have hfz26_1 := blk_frozen BK198.out 1; have hfz26_2 := blk_frozen BK198.out 2) | ((with_reducible refine gate_builtin (b := .append) (xs := #[.tmp 48, .tmp 50]) rfl ?_); at_builtin; refine Kd.S_append k38 (w0 := w) w.heap.size rfl (.tmp 48) (.tmp 50) 45 38 (.agg #[(.int .i64 0), (.string ⟨#[]⟩), (.slice none 0 0)]) 48 rfl Try.underlying45 info38 rfl (by decide) (by omega) (.slice Ao25 x6_1.length co25) x6_1 (⟨t192, t193, t194⟩ : S38) [.int .i64 t192, .string t193, .slice Ao23 t194.length co23] (fun k_ => k_ ≠ gb198) (fun k_ => some k_ = (.slice Ao23 t194.length co23 : Value).ownBlock) rfl rfl ?aP (fun k_ hk_ => ((Kd.R_mono (ok' := fun k_ => ((fun k_ => k_ ≠ gb198)) k_ ∧ some k_ ≠ (.slice Ao25 x6_1.length co25 : Value).ownBlock) (Kd.R_types (Kd.R_apart' (HO196.out) (Kd.S_typed HO_6.out) (by decide)) BK198.out (by decide)) (fun k_ hk => ⟨hk.2, hk.1.2⟩))).1 k_ hk_.symm) ?aF ?aO ?aB ?aS ?aL ?_; (case aP => exact k38_mkM _ _ _ (⟨t192, t193, t194⟩ : S38) (Kd.R_mono (Kd.R_tight rfl (Kd.R_mono (ok' := fun k_ => ((fun k_ => k_ ≠ gb198)) k_ ∧ some k_ ≠ (.slice Ao25 x6_1.length co25 : Value).ownBlock) (Kd.R_types (Kd.R_apart' (HO196.out) (Kd.S_typed HO_6.out) (by decide)) BK198.out (by decide)) (fun k_ hk => ⟨hk.2, hk.1.2⟩))) (fun _ h_ => h_))); (case aB => exact (by repeat (first | (with_reducible first | exact HB.out | apply below_alloc | apply pw_below_drewN | apply below_drew1 | refine below_set ?_ GE198.out) | exact HB.out))); (case aF => exact (fun k_ hk => Kd.freshB (g := gb198) (o := .cells #[.int .i64 t192, .string t193, .slice Ao23 t194.length co23] 38 (0, 0)) (by (with_reducible repeat (first | refine blk_drewN ?_ _ | refine blk_drew ?_ | refine blk_alloc ?_ _)); exact BK198.out) k_ hk)); (case aO => exact (by (with_reducible repeat (first | apply Kd.S_alloc | apply Kd.S_drewN | apply Kd.S_drew)); exact Kd.S_mono HO_6.out (fun k_ hk => ⟨hk.2, fun e_ => hk.1 e_⟩))); (case aS => exact (below_size (by repeat (first | (with_reducible first | exact HB.out | apply below_alloc | apply pw_below_drewN | apply below_drew1 | refine below_set ?_ GE198.out) | exact HB.out)))); (case aL => have := LMc19.out; omega); intro v200 w27 ho hb hg hat; rw [← Ny199.out] at ho; have n0_ := Aside0.mk (blk_grown (g := gb198) (o := .cells #[.int .i64 t192, .string t193, .slice Ao23 t194.length co23] 38 (0, 0)) (by (with_reducible repeat (first | refine blk_drewN ?_ _ | refine blk_drew ?_ | refine blk_alloc ?_ _)); exact BK198.out) hg (Kd.S_away HO_6.out (fun _ hk => hk.2))); have n1_ := Aside0.mk (hb); have n2_ := Aside0.mk (ho); clear BK198; clear HB; clear HO_6; clear HO196; have BK198 := n0_; have HB := n1_; have HO201 := n2_; clear n0_ n1_ n2_; clear ho hb hg hat))
                        go_roundg k1
                        case measure => have := HK1.out; omega
                        case rel => exact ⟨(x0_1.extract ((ji6) : Int).toNat x0_1.size), (y199), (x7_1), (by first | rfl | (simp; done) | (simp only [← hji6] <;> (first | rfl | simp)) | (simp [*]; done)), (by first | rfl | (simp; done) | (simp [*]; done)), H', ⟨by have := HK1.out; omega⟩, ⟨by (with_reducible repeat (first | apply Kd.S_alloc | apply Kd.S_drewN | apply Kd.S_drew)); exact Kd.S_mono HO201.out (fun _ hk => trivial)⟩, ⟨by repeat (first | (with_reducible first | exact HB.out | apply below_alloc | apply pw_below_drewN | apply below_drew1 | refine below_set ?_ GE198.out) | exact HB.out)⟩⟩
                      · rw [if_neg c19] at H
                        exact absurd H (by simp)
                  · replace c12 := Bool.eq_false_iff.mpr c12
                    subst c12
                    have H1 : (some (([] : List (S38)), 0, 2, false)) = some (r1, r2, r3, r4) := by rw [if_neg (show ¬ (false = true) by decide)] at H; exact H
                    clear H
                    have H := H1
                    clear H1
                    simp only [Option.some.injEq, Prod.mk.injEq] at H
                    obtain ⟨rfl, rfl, rfl, rfl⟩ := H
                    go_wp2_with (first | ((with_reducible refine gate_callee (f := 14) rfl ?_); refine goesL_ (some 21) rfl rfl Try.func14 (by kernel_rfl) rfl #[.string x0_1] rfl (by (try simp only [List.map_toArray, List.map_cons, List.map_nil]); first | done | rfl | (simp only [List.length_drop, List.length_take]; rfl)) ?_; (with_reducible refine (impl_SkipPart.calls x0_1 t187 t188 t189 true _ A4.out).mono ?_); rintro e w' ⟨rfl, ⟨nd, rfl⟩⟩; refine ⟨_, rfl, ?_⟩; (try (rw [drewN_self wr]; generalize hq_ : World.drewN wr _ = wr; have n0_ : Aside0 (Kd.S k38 38 wr w.heap.size (fun _ => True) u6 x6_1) := ⟨by rw [← hq_]; exact (by (with_reducible repeat (first | apply Kd.S_alloc | apply Kd.S_drewN | apply Kd.S_drew)); exact HO_6.out)⟩; have n1_ : Aside0 (Below w.heap.size w wr) := ⟨by rw [← hq_]; exact (by repeat (first | (with_reducible first | exact HB.out | apply below_alloc | apply pw_below_drewN | apply below_drew1) | exact HB.out))⟩; clear HO_6 HB hq_; have HO_6 := n0_; have HB := n1_; clear n0_ n1_))) | ((with_reducible refine gate_callee (f := 58) rfl ?_); refine goesL_ (some 33) rfl rfl Try.func58 (by kernel_rfl) rfl #[.int .i64 t187, .int .i64 1, .int .i64 4] rfl (by (try simp only [List.map_toArray, List.map_cons, List.map_nil]); first | done | rfl | (simp only [List.length_drop, List.length_take]; rfl)) ?_; (with_reducible refine (impl_in.calls t187 1 4 true _ A9.out).mono ?_); rintro e w' ⟨rfl, ⟨nd, rfl⟩⟩; refine ⟨_, rfl, ?_⟩; (try (rw [drewN_self wr]; generalize hq_ : World.drewN wr _ = wr; have n0_ : Aside0 (Kd.S k38 38 wr w.heap.size (fun _ => True) u6 x6_1) := ⟨by rw [← hq_]; exact (by (with_reducible repeat (first | apply Kd.S_alloc | apply Kd.S_drewN | apply Kd.S_drew)); exact HO_6.out)⟩; have n1_ : Aside0 (Below w.heap.size w wr) := ⟨by rw [← hq_]; exact (by repeat (first | (with_reducible first | exact HB.out | apply below_alloc | apply pw_below_drewN | apply below_drew1) | exact HB.out))⟩; clear HO_6 HB hq_; have HO_6 := n0_; have HB := n1_; clear n0_ n1_))) | ((with_reducible refine gate_callee (f := 68) rfl ?_); refine goesL_ (some 40) rfl rfl Try.func68 (by kernel_rfl) rfl #[.int .i64 t187, .string t189] rfl (by (try simp only [List.map_toArray, List.map_cons, List.map_nil]); first | done | rfl | (simp only [List.length_drop, List.length_take]; rfl)) ?_; (with_reducible refine (impl_partOf.calls k1 t187 t189 t192 t193 t194 false _ A11.out).mono ?_); rintro e w28 ⟨v195, rfl, ho0, hb⟩; refine ⟨_, rfl, ?_⟩; have n0_ := Aside0.mk (Kd.S_elder' (by (with_reducible repeat (first | apply Kd.S_alloc | apply Kd.S_drewN | apply Kd.S_drew)); exact HO_6.out) (Kd.R_base ho0) hb); have n1_ := Aside0.mk (Kd.R_lower ho0 (below_size (by repeat (first | (with_reducible first | exact HB.out | apply below_alloc | apply pw_below_drewN | apply below_drew1) | exact HB.out)))); have n2_ := Aside0.mk (below_step (by repeat (first | (with_reducible first | exact HB.out | apply below_alloc | apply pw_below_drewN | apply below_drew1) | exact HB.out)) hb); clear HO_6; clear HB; have HO_6 := n0_; have HO196 := n1_; have HB := n2_; clear n0_ n1_ n2_; (try clear hb); (try clear hb2); (try clear hk); (try clear hi); (try clear ho0)) | ((with_reducible refine gate_dst (N := 12) rfl ?_); refine box_event ?hg (N := 12) ?hd (cs := #[.int .i64 0, .string (⟨#[]⟩ : ByteArray), .slice none 0 0]) (t := 38) ?hr ?_; (case hd => rfl); (case hg => rfl); (case hr => first | (go_simp; done) | (go_simp; rfl)); intro gb198 hg w29 hbox hb; have n0_ := Aside0.mk (Kd.S_below (Kd.S_elderB (by (with_reducible repeat (first | apply Kd.S_alloc | apply Kd.S_drewN | apply Kd.S_drew)); exact HO_6.out) gb198 (Nat.le_of_eq hg.symm)) hb); have n1_ := Aside0.mk (Kd.R_below (by (with_reducible repeat (first | apply Kd.R_alloc | apply Kd.R_drewN | apply Kd.R_drew)); exact HO196.out) hb); have n2_ := Aside0.mk (below_step (by repeat (first | (with_reducible first | exact HB.out | apply below_alloc | apply pw_below_drewN | apply below_drew1) | exact HB.out)) hb); have n3_ := Aside0.mk (hbox); have n4_ := Aside0.mk ((by rw [hg]; exact (below_size (by repeat (first | (with_reducible first | exact HB.out | apply below_alloc | apply pw_below_drewN | apply below_drew1) | exact HB.out))) : w.heap.size ≤ gb198)); have n5_ := Aside0.mk ((by rw [hg]; exact (below_size (by repeat (first | (with_reducible first | exact HB.out | apply below_alloc | apply pw_below_drewN | apply below_drew1) | exact HB.out))) : w.heap.size ≤ gb198)); clear HO_6; clear HO196; clear HB; have HO_6 := n0_; have HO196 := n1_; have HB := n2_; have BK198 := n3_; have GW198 := n4_; have GE198 := n5_; clear n0_ n1_ n2_ n3_ n4_ n5_; clear hb hbox hg; have hcz30_0 : w29.cell? ⟨gb198, 0, none⟩ = some (.int .i64 0) := (blk_cell BK198.out 0).trans rfl; have hcz30_1 : w29.cell? ⟨gb198, 1, none⟩ = some (.string (⟨#[]⟩ : ByteArray)) := (blk_cell BK198.out 1).trans rfl; have hcz30_2 : w29.cell? ⟨gb198, 2, none⟩ = some (.slice none 0 0) := (blk_cell BK198.out 2).trans rfl; have hfz30_0 := blk_frozen BK198.out 0; have hfz30_1 := blk_frozen BK198.out 1; have hfz30_2 := blk_frozen BK198.out 2; obtain ⟨Ao31, co31, eo31⟩ := Kd.R_slice HO196.out; subst eo31))
                    refine bodyPost_ret (results_list (rs := [.tmp 2, .tmp 3, .tmp 4, .tmp 5]) rfl (by simp) (.tmp (.tmp (.tmp (.tmp .nil))))) rfl ?_
                    exact ⟨_, by first | rfl | (simp [errW_none, errW_some] <;> rfl) | (simp only [← hji6]; first | rfl | (simp [errW_none, errW_some] <;> rfl)) | (simp [*, errW_none, errW_some] <;> rfl), by first | exact Kd.S_nil _ _ _ _ _ | exact Kd.N_nil _ _ _ _ _ | exact Kd.V_nil _ _ _ _ _ | exact Kd.Q_nil _ _ _ _ _ | exact Kd.R_nil _ _ _ _ _, by repeat (first | (with_reducible first | exact HB.out | apply below_alloc | apply pw_below_drewN | apply below_drew1 | refine below_set ?_ GE198.out) | exact HB.out)⟩
                · replace c10 := Bool.eq_false_iff.mpr c10
                  subst c10
                  have H1 : (impl_ReadFrame.l0 k1 (x0_1.extract ((ji6) : Int).toNat x0_1.size) x6_1 (wrap64 (x7_1 + 1))) = some (r1, r2, r3, r4) := by rw [if_neg (show ¬ (false = true) by decide)] at H; exact H
                  clear H
                  have H := H1
                  clear H1
                  have H' := Aside0.mk H
                  clear H
                  go_wp2_with (first | ((with_reducible refine gate_callee (f := 14) rfl ?_); refine goesL_ (some 21) rfl rfl Try.func14 (by kernel_rfl) rfl #[.string x0_1] rfl (by (try simp only [List.map_toArray, List.map_cons, List.map_nil]); first | done | rfl | (simp only [List.length_drop, List.length_take]; rfl)) ?_; (with_reducible refine (impl_SkipPart.calls x0_1 t187 t188 t189 true _ A4.out).mono ?_); rintro e w' ⟨rfl, ⟨nd, rfl⟩⟩; refine ⟨_, rfl, ?_⟩) | ((with_reducible refine gate_callee (f := 58) rfl ?_); refine goesL_ (some 33) rfl rfl Try.func58 (by kernel_rfl) rfl #[.int .i64 t187, .int .i64 1, .int .i64 4] rfl (by (try simp only [List.map_toArray, List.map_cons, List.map_nil]); first | done | rfl | (simp only [List.length_drop, List.length_take]; rfl)) ?_; (with_reducible refine (impl_in.calls t187 1 4 false _ A9.out).mono ?_); rintro e w' ⟨rfl, ⟨nd, rfl⟩⟩; refine ⟨_, rfl, ?_⟩))
                  go_roundg k1
                  case measure => have := HK1.out; omega
                  case rel => exact ⟨(x0_1.extract ((ji6) : Int).toNat x0_1.size), (x6_1), (wrap64 (x7_1 + 1)), (by first | rfl | (simp; done) | (simp only [← hji6] <;> (first | rfl | simp)) | (simp [*]; done)), (by first | rfl | (simp; done) | (simp [*]; done)), H', ⟨by have := HK1.out; omega⟩, ⟨by (with_reducible repeat (first | apply Kd.S_alloc | apply Kd.S_drewN | apply Kd.S_drew)); exact HO_6.out⟩, ⟨by repeat (first | (with_reducible first | exact HB.out | apply below_alloc | apply pw_below_drewN | apply below_drew1) | exact HB.out)⟩⟩
              · rw [if_neg c8] at H
                exact absurd H (by simp)
            · rw [if_neg c7] at H
              exact absurd H (by simp)
          · replace c5 := Bool.eq_false_iff.mpr c5
            subst c5
            have H1 : (some (([] : List (S38)), 0, 1, false)) = some (r1, r2, r3, r4) := by rw [if_neg (show ¬ (false = true) by decide)] at H; exact H
            clear H
            have H := H1
            clear H1
            simp only [Option.some.injEq, Prod.mk.injEq] at H
            obtain ⟨rfl, rfl, rfl, rfl⟩ := H
            go_wp2_with (first | ((with_reducible refine gate_callee (f := 14) rfl ?_); refine goesL_ (some 21) rfl rfl Try.func14 (by kernel_rfl) rfl #[.string x0_1] rfl (by (try simp only [List.map_toArray, List.map_cons, List.map_nil]); first | done | rfl | (simp only [List.length_drop, List.length_take]; rfl)) ?_; (with_reducible refine (impl_SkipPart.calls x0_1 t187 t188 t189 false _ A4.out).mono ?_); rintro e w' ⟨rfl, ⟨nd, rfl⟩⟩; refine ⟨_, rfl, ?_⟩))
            refine bodyPost_ret (results_list (rs := [.tmp 2, .tmp 3, .tmp 4, .tmp 5]) rfl (by simp) (.tmp (.tmp (.tmp (.tmp .nil))))) rfl ?_
            exact ⟨_, by first | rfl | (simp [errW_none, errW_some] <;> rfl) | (simp [*, errW_none, errW_some] <;> rfl), by first | exact Kd.S_nil _ _ _ _ _ | exact Kd.N_nil _ _ _ _ _ | exact Kd.V_nil _ _ _ _ _ | exact Kd.Q_nil _ _ _ _ _ | exact Kd.R_nil _ _ _ _ _, by repeat (first | (with_reducible first | exact HB.out | apply below_alloc | apply pw_below_drewN | apply below_drew1) | exact HB.out)⟩

/-! ### laws_FnExactReadFrame: function 10 (the way on which all tests hold) -/
def laws_FnExactReadFrame.f (k : Nat) (a0 : ByteArray) : Option (Bool) := if (a0.size : Int) > 1048576 then some true else ((spec_ReadFrame.f k a0).bind fun r => ((impl_ReadFrame.f k a0).bind fun q => ((laws_eqPartS.f k q.1 r.1).bind fun u0 => (if u0 = true then (if q.2.1 = r.2.1 then (if q.2.2.1 = r.2.2.1 then (if q.2.2.2 = r.2.2.2 then ((laws_markPartS.f k q.1 1).bind fun n0 => ((laws_heldPartS.f k n0.2 1).bind fun p0 => (if p0 = n0.1 then (if 0 ≤ p0 then (some true) else none) else none))) else none) else none) else none) else none))))
set_option maxHeartbeats 8000000 in
set_option maxRecDepth 100000 in
theorem laws_FnExactReadFrame.calls (k : Nat) (a0 : ByteArray) (r : Bool) (w : World)  (h : laws_FnExactReadFrame.f k a0 = some r) :
    Calls Try.prog 10 #[.string a0] w fun e w' => e = .returned (.bool r) ∧ Below w.heap.size w w' := by
  have H := h
  clear h
  unfold laws_FnExactReadFrame.f at H
  have HB0 := Aside0.mk (Below.refl w.heap.size w)
  go_enter Try.func10, Try.ntmps10
  by_cases clong : (a0.size : Int) > 1048576
  · rw [if_pos clong] at H
    obtain rfl := Option.some.inj H
    have cl1 : decide (1048576 < (a0.size : Int)) = true := decide_eq_true clong
    have cl2 : decide (1048576 < a0.size) = true := decide_eq_true (by omega)
    go_wp2
    go_ret
    exact ⟨rfl, HB0.out⟩
  rw [if_neg clong] at H
  have cl1 : decide (1048576 < (a0.size : Int)) = false := decide_eq_false clong
  have cl2 : decide (1048576 < a0.size) = false := decide_eq_false (by omega)
  replace H := Option.bind_eq_some_iff.mp H
  obtain ⟨⟨r0, r1, r2, r3⟩, B_BP, H⟩ := H
  have BP := Aside0.mk B_BP
  clear B_BP
  replace H := Option.bind_eq_some_iff.mp H
  obtain ⟨⟨q0, q1, q2, q3⟩, B_BI, H⟩ := H
  have BI := Aside0.mk B_BI
  clear B_BI
  replace H := Option.bind_eq_some_iff.mp H
  obtain ⟨u0, B_BU0, H⟩ := H
  have BU0 := Aside0.mk B_BU0
  clear B_BU0
  by_cases cu0 : u0 = true
  case neg => rw [if_neg cu0] at H; exact absurd H (by simp)
  rw [if_pos cu0] at H
  subst cu0
  by_cases cq1 : q1 = r1
  case neg => rw [if_neg cq1] at H; exact absurd H (by simp)
  rw [if_pos cq1] at H
  replace cq1 : q1 = r1 := cq1
  subst cq1
  by_cases cq2 : q2 = r2
  case neg => rw [if_neg cq2] at H; exact absurd H (by simp)
  rw [if_pos cq2] at H
  replace cq2 : q2 = r2 := cq2
  subst cq2
  by_cases cq3 : q3 = r3
  case neg => rw [if_neg cq3] at H; exact absurd H (by simp)
  rw [if_pos cq3] at H
  replace cq3 : q3 = r3 := cq3
  subst cq3
  replace H := Option.bind_eq_some_iff.mp H
  obtain ⟨⟨n0, z0⟩, B_BN, H⟩ := H
  have BN := Aside0.mk B_BN
  clear B_BN
  replace H := Option.bind_eq_some_iff.mp H
  obtain ⟨p0, B_BH, H⟩ := H
  have BH := Aside0.mk B_BH
  clear B_BH
  by_cases cp : p0 = n0
  case neg => rw [if_neg cp] at H; exact absurd H (by simp)
  rw [if_pos cp] at H
  subst cp
  by_cases cn : 0 ≤ p0
  case neg => rw [if_neg cn] at H; exact absurd H (by simp)
  rw [if_pos cn] at H
  have cnb : decide (p0 < 0) = false := decide_eq_false (by omega)
  clear cn
  obtain rfl := Option.some.inj H
  clear H
  go_wp2_with fail
  refine (spec_ReadFrame.calls k a0 r0 q1 q2 q3 w  BP.out).mono ?_
  rintro e w1_ ⟨v1_0, rfl, ho0_, hb_⟩
  have HB1 := Aside0.mk (below_step HB0.out hb_)
  have hz1 : w.heap.size ≤ w1_.heap.size := hb_.size
  clear hb_
  have W0_n := Aside0.mk (Kd.S_lower (Kd.S_mono (Kd.S_bound ho0_) (fun k_ hk => (⟨hk.2.1, hk.2.2.1⟩ : w.heap.size ≤ k_ ∧ k_ < w1_.heap.size))) (show w.heap.size ≤ w.heap.size by omega))
  obtain ⟨A_W0, c_W0, ev_W0⟩ := Kd.S_slice W0_n.out
  subst ev_W0
  clear ho0_
  go_wp2_with fail
  refine (impl_ReadFrame.calls k a0 q0 q1 q2 q3 w1_  BI.out).mono ?_
  rintro e w2_ ⟨v2_0, rfl, ho0_, hb_⟩
  have HB2 := Aside0.mk (below_step HB1.out hb_)
  have hz2 : w1_.heap.size ≤ w2_.heap.size := hb_.size
  have W0_2 := Aside0.mk (Kd.S_below W0_n.out hb_)
  clear W0_n
  clear hb_
  have G0_n := Aside0.mk (Kd.S_lower (Kd.S_mono (Kd.S_bound ho0_) (fun k_ hk => (⟨hk.2.1, hk.2.2.1⟩ : w1_.heap.size ≤ k_ ∧ k_ < w2_.heap.size))) (show w.heap.size ≤ w1_.heap.size by omega))
  obtain ⟨A_G0, c_G0, ev_G0⟩ := Kd.S_slice G0_n.out
  subst ev_G0
  clear ho0_
  go_wp2_with fail
  refine (laws_eqPartS.calls k _ _ q0 _ _ r0 true w2_ ((Kd.S_reads' G0_n.out).2.2) ((Kd.S_reads' G0_n.out).2.1) ((Kd.S_reads' W0_2.out).2.2) ((Kd.S_reads' W0_2.out).2.1) BU0.out).mono ?_
  rintro e w3_ ⟨rfl, hb0_⟩
  have hb_ := hb0_
  clear hb0_
  have HB3 := Aside0.mk (below_step HB2.out hb_)
  have hz3 : w2_.heap.size ≤ w3_.heap.size := hb_.size
  have W0_3 := Aside0.mk (Kd.S_below W0_2.out hb_)
  clear W0_2
  have G0_3 := Aside0.mk (Kd.S_below G0_n.out hb_)
  clear G0_n
  clear hb_
  go_wp2_with fail
  refine (laws_markPartS.calls k (fun k_ => w1_.heap.size ≤ k_ ∧ k_ < w2_.heap.size) (.slice A_G0 q0.length c_G0) q0 1 p0 z0 w w3_ HB3.out G0_3.out BN.out).mono ?_
  rintro e w4_ ⟨rfl, ho_, hb_, hk_⟩
  have HB4 := Aside0.mk hb_
  have hz4 : w3_.heap.size ≤ w4_.heap.size := hk_.1
  clear G0_3
  have W0_4 := Aside0.mk (Kd.S_kept W0_3.out hk_ (fun k_ h1_ h2_ => by omega))
  clear W0_3
  have G0_w := Aside0.mk ho_
  clear hb_ hk_ ho_
  have el_G0 : q0.length = z0.length := (Kd.S_reads' G0_w.out).1
  have EL_G0 := Aside0.mk el_G0
  clear el_G0
  have hx_ := (Kd.S_reads' G0_w.out)
  go_wp2_with fail
  (try rw [EL_G0.out])
  rw [EL_G0.out] at hx_
  refine (laws_heldPartS.calls k _ _ z0 1 p0 w4_ hx_.2.2 hx_.2.1 BH.out).mono ?_
  clear hx_
  rintro e w5_ ⟨rfl, hb0_⟩
  have hb_ := hb0_
  clear hb0_
  have HB5 := Aside0.mk (below_step HB4.out hb_)
  have hz5 : w4_.heap.size ≤ w5_.heap.size := hb_.size
  have W0_5 := Aside0.mk (Kd.S_below W0_4.out hb_)
  clear W0_4
  have G0_5 := Aside0.mk (Kd.S_below G0_w.out hb_)
  clear G0_w
  clear hb_
  go_wp2_with fail
  refine (impl_ReadFrame.calls k a0 q0 q1 q2 q3 w5_  BI.out).mono ?_
  rintro e w6_ ⟨v6_0, rfl, ho0_, hb_⟩
  have HB6 := Aside0.mk (below_step HB5.out hb_)
  have hz6 : w5_.heap.size ≤ w6_.heap.size := hb_.size
  have W0_6 := Aside0.mk (Kd.S_below W0_5.out hb_)
  clear W0_5
  have G0_6 := Aside0.mk (Kd.S_below G0_5.out hb_)
  clear G0_5
  clear hb_
  have H0_n := Aside0.mk (Kd.S_lower (Kd.S_mono (Kd.S_bound ho0_) (fun k_ hk => (⟨hk.2.1, hk.2.2.1⟩ : w5_.heap.size ≤ k_ ∧ k_ < w6_.heap.size))) (show w.heap.size ≤ w5_.heap.size by omega))
  obtain ⟨A_H0, c_H0, ev_H0⟩ := Kd.S_slice H0_n.out
  subst ev_H0
  clear ho0_
  go_wp2_with fail
  refine (laws_eqPartS.calls k _ _ q0 _ _ r0 true w6_ ((Kd.S_reads' H0_n.out).2.2) ((Kd.S_reads' H0_n.out).2.1) ((Kd.S_reads' W0_6.out).2.2) ((Kd.S_reads' W0_6.out).2.1) BU0.out).mono ?_
  rintro e w7_ ⟨rfl, hb0_⟩
  have hb_ := hb0_
  clear hb0_
  have HB7 := Aside0.mk (below_step HB6.out hb_)
  have hz7 : w6_.heap.size ≤ w7_.heap.size := hb_.size
  have W0_7 := Aside0.mk (Kd.S_below W0_6.out hb_)
  clear W0_6
  have G0_7 := Aside0.mk (Kd.S_below G0_6.out hb_)
  clear G0_6
  have H0_7 := Aside0.mk (Kd.S_below H0_n.out hb_)
  clear H0_n
  clear hb_
  have hx_ := (Kd.S_reads' G0_7.out)
  go_wp2_with fail
  (try rw [EL_G0.out])
  rw [EL_G0.out] at hx_
  refine (laws_heldPartS.calls k _ _ z0 1 p0 w7_ hx_.2.2 hx_.2.1 BH.out).mono ?_
  clear hx_
  rintro e w8_ ⟨rfl, hb0_⟩
  have hb_ := hb0_
  clear hb0_
  have HB8 := Aside0.mk (below_step HB7.out hb_)
  have hz8 : w7_.heap.size ≤ w8_.heap.size := hb_.size
  have W0_8 := Aside0.mk (Kd.S_below W0_7.out hb_)
  clear W0_7
  have G0_8 := Aside0.mk (Kd.S_below G0_7.out hb_)
  clear G0_7
  have H0_8 := Aside0.mk (Kd.S_below H0_7.out hb_)
  clear H0_7
  clear hb_
  go_wp2
  go_ret
  exact ⟨rfl, HB8.out⟩

end Go.Proofs.Ytajfpfmbmkmafaa.PFnExactReadFrame
