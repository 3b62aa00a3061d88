-- Written by a program of this project (myprint.py, by way of the kit's printer). Not trusted: Lean checks it.
import Derived.Test.YtajfpfmbmkmafaaPFnFramesx0
import Derived.Test.YtajfpfmbmkmafaaPFnFramesx1
import Derived.Test.YtajfpfmbmkmafaaPFnFramesx2
import Derived.Test.YtajfpfmbmkmafaaPFnFramesx4
import Derived.Test.YtajfpfmbmkmafaaPFnFramesx6
import Derived.Test.YtajfpfmbmkmafaaPFnFramesx7
import Derived.Test.YtajfpfmbmkmafaaPFnFramesx9
import Derived.Test.YtajfpfmbmkmafaaPFnFramesx11
import Derived.Test.YtajfpfmbmkmafaaPFnFramesx12
namespace Go.Proofs.Ytajfpfmbmkmafaa.PFnFrames
open Go.RowKit Go.Proofs.YtajfpfmbmkmafaaW.PrintWords Go.Proofs.YtajfpfmbmkmafaaW.PrintLast Go.Proofs.YtajfpfmbmkmafaaW.PrintMore
attribute [local go_sem] max2_int min2_int max_two min_two max_three min_three max_four min_four   -- for this text's walks alone
set_option linter.unusedVariables false
set_option linter.unusedSimpArgs false

/-! ### laws_FnFrames: function 12 -/
mutual
def laws_FnFrames.j0 : Nat → List Int → List (S38) → ByteArray → Bool → Bool → Option (Bool)
  | 0, _, _, _, _, _ => none
  | k + 1, x1, x5, x6, x7, x65 => if x65 = true then (none) else (if x7 = true then ((impl_ReadFrame.f k x6).bind fun bt411 => (if bt411.2.2.2 = true then (if bt411.2.1 = 0 then (if bt411.2.2.1 = 0 then ((laws_sameParts.f k bt411.1 x5).bind fun t417 => (laws_FnFrames.j1 k x1 x5 x6 (!t417))) else (none)) else (none)) else (none))) else (laws_FnFrames.j3 k x1))
def laws_FnFrames.j3 : Nat → List Int → Option (Bool)
  | 0, _ => none
  | k + 1, x1 => (spec_DrawReadFrame.f k x1).bind fun t432 => ((impl_ReadFrame.f k t432).bind fun bt433 => ((spec_ReadFrame.f k t432).bind fun bt439 => ((impl_SkipPart.f t432).bind fun bt445 => ((spec_SkipPart.f t432).bind fun bt449 => (if (bt433.2.2.2 != bt439.2.2.2) = true then (none) else (if bt433.2.1 = bt439.2.1 then (if bt433.2.2.1 = bt439.2.2.1 then ((laws_sameParts.f k bt433.1 bt439.1).bind fun t453 => (if t453 = true then (if (bt445.2.2.2 != bt449.2.2.2) = true then (none) else (if bt445.1 = bt449.1 then (if bt445.2.1 = bt449.2.1 then (laws_FnFrames.j4 k t432 bt433.1 bt433.2.1 bt433.2.2.2 (bt445.2.2.1.toList != bt449.2.2.1.toList)) else (none)) else (none))) else (none))) else (none)) else (none)))))))
def laws_FnFrames.j4 : Nat → ByteArray → List (S38) → Int → Bool → Bool → Option (Bool)
  | 0, _, _, _, _, _ => none
  | k + 1, x21, x22, x23, x25, x206 => if x206 = true then (none) else (if x25 = true then (if x23 = 0 then ((impl_FrameText.f k x22).bind fun bt454 => (if bt454.2 = true then (some (bt454.1.toList == x21.toList)) else (none))) else (some true)) else (some true))
def laws_FnFrames.j1 : Nat → List Int → List (S38) → ByteArray → Bool → Option (Bool)
  | 0, _, _, _, _ => none
  | k + 1, x1, x5, x6, x89 => if x89 = true then (none) else (if (wrap64 ((x6.size : Int) + 3)) ≤ 200 then ((laws_numberOf.f k x1).bind fun t418 => (if (wrap64 ((x5.length : Int) + 1)) = 0 then (none) else (if 0 ≤ (Int.tmod t418 (wrap64 ((x5.length : Int) + 1))) then (if (Int.tmod t418 (wrap64 ((x5.length : Int) + 1))) ≤ (x5.length : Int) then ((impl_FrameText.f k (x5.take ((Int.tmod t418 (wrap64 ((x5.length : Int) + 1))) : Int).toNat)).bind fun bt423 => (if bt423.2 = true then (if bt423.1.size + 3 ≤ 9223372036854775807 then (if 0 ≤ (bt423.1.size : Int) then (if (bt423.1.size : Int) ≤ (x6.size : Int) then (if (bt423.1 ++ (⟨#[99, 1, 122]⟩ : ByteArray)).size + (x6.extract ((bt423.1.size : Int) : Int).toNat x6.size).size ≤ 9223372036854775807 then ((impl_ReadFrame.f k ((bt423.1 ++ (⟨#[99, 1, 122]⟩ : ByteArray)) ++ (x6.extract ((bt423.1.size : Int) : Int).toNat x6.size))).bind fun bt425 => (if bt425.2.2.2 = true then (if bt425.2.1 = 1 then (if bt425.2.2.1 = 0 then ((laws_sameParts.f k bt425.1 x5).bind fun t431 => (laws_FnFrames.j2 k x1 (!t431))) else (none)) else (none)) else (none))) else (none)) else (none)) else (none)) else (none)) else (none))) else (none)) else (none)))) else (laws_FnFrames.j3 k x1))
def laws_FnFrames.j2 : Nat → List Int → Bool → Option (Bool)
  | 0, _, _ => none
  | k + 1, x1, x137 => if x137 = true then (none) else (laws_FnFrames.j3 k x1)
end
def laws_FnFrames.f (k : Nat) (l0 : List Int) (l1 : List Int) : Option (Bool) := if (wrap64 ((l0.length : Int) + (l1.length : Int))) > 1048576 then (some true) else ((spec_DrawFrameText.f k l0).bind fun t404 => ((impl_FrameText.f k t404).bind fun bt407 => ((spec_FrameText.f k t404).bind fun bt409 => (if (bt407.2 != bt409.2) = true then (none) else (laws_FnFrames.j0 k l1 t404 bt407.1 bt407.2 (bt407.1.toList != bt409.1.toList))))))
theorem laws_FnFrames.mono_l : ∀ k, (∀ y0 y1 y2 y3 y4, LeO (laws_FnFrames.j0 k y0 y1 y2 y3 y4) (laws_FnFrames.j0 (k + 1) y0 y1 y2 y3 y4)) ∧ (∀ y0, LeO (laws_FnFrames.j3 k y0) (laws_FnFrames.j3 (k + 1) y0)) ∧ (∀ y0 y1 y2 y3 y4, LeO (laws_FnFrames.j4 k y0 y1 y2 y3 y4) (laws_FnFrames.j4 (k + 1) y0 y1 y2 y3 y4)) ∧ (∀ y0 y1 y2 y3, LeO (laws_FnFrames.j1 k y0 y1 y2 y3) (laws_FnFrames.j1 (k + 1) y0 y1 y2 y3)) ∧ (∀ y0 y1, LeO (laws_FnFrames.j2 k y0 y1) (laws_FnFrames.j2 (k + 1) y0 y1))
  | 0 => ⟨fun _ _ _ _ _ r h => by simp [laws_FnFrames.j0] at h, fun _ r h => by simp [laws_FnFrames.j3] at h, fun _ _ _ _ _ r h => by simp [laws_FnFrames.j4] at h, fun _ _ _ _ r h => by simp [laws_FnFrames.j1] at h, fun _ _ r h => by simp [laws_FnFrames.j2] at h⟩
  | k + 1 => by
    obtain ⟨ih0, ih1, ih2, ih3, ih4⟩ := laws_FnFrames.mono_l k
    refine ⟨?_, ?_, ?_, ?_, ?_⟩
    · intro y0 y1 y2 y3 y4
      unfold laws_FnFrames.j0
      repeat' first
      | (with_reducible exact ih0 _ _ _ _ _)
      | (with_reducible exact ih1 _)
      | (with_reducible exact ih2 _ _ _ _ _)
      | (with_reducible exact ih3 _ _ _ _)
      | (with_reducible exact ih4 _ _)
      | (with_reducible exact impl_FrameText.mono _ _)
      | (with_reducible exact impl_ReadFrame.mono _ _)
      | (with_reducible exact laws_numberOf.mono _ _)
      | (with_reducible exact laws_sameParts.mono _ _ _)
      | (with_reducible exact spec_DrawFrameText.mono _ _)
      | (with_reducible exact spec_DrawReadFrame.mono _ _)
      | (with_reducible exact spec_FrameText.mono _ _)
      | (with_reducible exact spec_ReadFrame.mono _ _)
      | (with_reducible exact LeO.refl _)
      | (with_reducible exact LeO.none _)
      | (with_reducible refine LeO.ite ?_ ?_)
      | (with_reducible refine LeO.bind ?_ (fun _ => ?_))
      | exact ih0 _ _ _ _ _
      | exact ih1 _
      | exact ih2 _ _ _ _ _
      | exact ih3 _ _ _ _
      | exact ih4 _ _
      | exact impl_FrameText.mono _ _
      | exact impl_ReadFrame.mono _ _
      | exact laws_numberOf.mono _ _
      | exact laws_sameParts.mono _ _ _
      | exact spec_DrawFrameText.mono _ _
      | exact spec_DrawReadFrame.mono _ _
      | exact spec_FrameText.mono _ _
      | exact spec_ReadFrame.mono _ _
      | exact LeO.none _
      | refine LeO.ite ?_ ?_
      | refine LeO.bind ?_ (fun _ => ?_)
    · intro y0
      unfold laws_FnFrames.j3
      repeat' first
      | (with_reducible exact ih0 _ _ _ _ _)
      | (with_reducible exact ih1 _)
      | (with_reducible exact ih2 _ _ _ _ _)
      | (with_reducible exact ih3 _ _ _ _)
      | (with_reducible exact ih4 _ _)
      | (with_reducible exact impl_FrameText.mono _ _)
      | (with_reducible exact impl_ReadFrame.mono _ _)
      | (with_reducible exact laws_numberOf.mono _ _)
      | (with_reducible exact laws_sameParts.mono _ _ _)
      | (with_reducible exact spec_DrawFrameText.mono _ _)
      | (with_reducible exact spec_DrawReadFrame.mono _ _)
      | (with_reducible exact spec_FrameText.mono _ _)
      | (with_reducible exact spec_ReadFrame.mono _ _)
      | (with_reducible exact LeO.refl _)
      | (with_reducible exact LeO.none _)
      | (with_reducible refine LeO.ite ?_ ?_)
      | (with_reducible refine LeO.bind ?_ (fun _ => ?_))
      | exact ih0 _ _ _ _ _
      | exact ih1 _
      | exact ih2 _ _ _ _ _
      | exact ih3 _ _ _ _
      | exact ih4 _ _
      | exact impl_FrameText.mono _ _
      | exact impl_ReadFrame.mono _ _
      | exact laws_numberOf.mono _ _
      | exact laws_sameParts.mono _ _ _
      | exact spec_DrawFrameText.mono _ _
      | exact spec_DrawReadFrame.mono _ _
      | exact spec_FrameText.mono _ _
      | exact spec_ReadFrame.mono _ _
      | exact LeO.none _
      | refine LeO.ite ?_ ?_
      | refine LeO.bind ?_ (fun _ => ?_)
    · intro y0 y1 y2 y3 y4
      unfold laws_FnFrames.j4
      repeat' first
      | (with_reducible exact ih0 _ _ _ _ _)
      | (with_reducible exact ih1 _)
      | (with_reducible exact ih2 _ _ _ _ _)
      | (with_reducible exact ih3 _ _ _ _)
      | (with_reducible exact ih4 _ _)
      | (with_reducible exact impl_FrameText.mono _ _)
      | (with_reducible exact impl_ReadFrame.mono _ _)
      | (with_reducible exact laws_numberOf.mono _ _)
      | (with_reducible exact laws_sameParts.mono _ _ _)
      | (with_reducible exact spec_DrawFrameText.mono _ _)
      | (with_reducible exact spec_DrawReadFrame.mono _ _)
      | (with_reducible exact spec_FrameText.mono _ _)
      | (with_reducible exact spec_ReadFrame.mono _ _)
      | (with_reducible exact LeO.refl _)
      | (with_reducible exact LeO.none _)
      | (with_reducible refine LeO.ite ?_ ?_)
      | (with_reducible refine LeO.bind ?_ (fun _ => ?_))
      | exact ih0 _ _ _ _ _
      | exact ih1 _
      | exact ih2 _ _ _ _ _
      | exact ih3 _ _ _ _
      | exact ih4 _ _
      | exact impl_FrameText.mono _ _
      | exact impl_ReadFrame.mono _ _
      | exact laws_numberOf.mono _ _
      | exact laws_sameParts.mono _ _ _
      | exact spec_DrawFrameText.mono _ _
      | exact spec_DrawReadFrame.mono _ _
      | exact spec_FrameText.mono _ _
      | exact spec_ReadFrame.mono _ _
      | exact LeO.none _
      | refine LeO.ite ?_ ?_
      | refine LeO.bind ?_ (fun _ => ?_)
    · intro y0 y1 y2 y3
      unfold laws_FnFrames.j1
      repeat' first
      | (with_reducible exact ih0 _ _ _ _ _)
      | (with_reducible exact ih1 _)
      | (with_reducible exact ih2 _ _ _ _ _)
      | (with_reducible exact ih3 _ _ _ _)
      | (with_reducible exact ih4 _ _)
      | (with_reducible exact impl_FrameText.mono _ _)
      | (with_reducible exact impl_ReadFrame.mono _ _)
      | (with_reducible exact laws_numberOf.mono _ _)
      | (with_reducible exact laws_sameParts.mono _ _ _)
      | (with_reducible exact spec_DrawFrameText.mono _ _)
      | (with_reducible exact spec_DrawReadFrame.mono _ _)
      | (with_reducible exact spec_FrameText.mono _ _)
      | (with_reducible exact spec_ReadFrame.mono _ _)
      | (with_reducible exact LeO.refl _)
      | (with_reducible exact LeO.none _)
      | (with_reducible refine LeO.ite ?_ ?_)
      | (with_reducible refine LeO.bind ?_ (fun _ => ?_))
      | exact ih0 _ _ _ _ _
      | exact ih1 _
      | exact ih2 _ _ _ _ _
      | exact ih3 _ _ _ _
      | exact ih4 _ _
      | exact impl_FrameText.mono _ _
      | exact impl_ReadFrame.mono _ _
      | exact laws_numberOf.mono _ _
      | exact laws_sameParts.mono _ _ _
      | exact spec_DrawFrameText.mono _ _
      | exact spec_DrawReadFrame.mono _ _
      | exact spec_FrameText.mono _ _
      | exact spec_ReadFrame.mono _ _
      | exact LeO.none _
      | refine LeO.ite ?_ ?_
      | refine LeO.bind ?_ (fun _ => ?_)
    · intro y0 y1
      unfold laws_FnFrames.j2
      repeat' first
      | (with_reducible exact ih0 _ _ _ _ _)
      | (with_reducible exact ih1 _)
      | (with_reducible exact ih2 _ _ _ _ _)
      | (with_reducible exact ih3 _ _ _ _)
      | (with_reducible exact ih4 _ _)
      | (with_reducible exact impl_FrameText.mono _ _)
      | (with_reducible exact impl_ReadFrame.mono _ _)
      | (with_reducible exact laws_numberOf.mono _ _)
      | (with_reducible exact laws_sameParts.mono _ _ _)
      | (with_reducible exact spec_DrawFrameText.mono _ _)
      | (with_reducible exact spec_DrawReadFrame.mono _ _)
      | (with_reducible exact spec_FrameText.mono _ _)
      | (with_reducible exact spec_ReadFrame.mono _ _)
      | (with_reducible exact LeO.refl _)
      | (with_reducible exact LeO.none _)
      | (with_reducible refine LeO.ite ?_ ?_)
      | (with_reducible refine LeO.bind ?_ (fun _ => ?_))
      | exact ih0 _ _ _ _ _
      | exact ih1 _
      | exact ih2 _ _ _ _ _
      | exact ih3 _ _ _ _
      | exact ih4 _ _
      | exact impl_FrameText.mono _ _
      | exact impl_ReadFrame.mono _ _
      | exact laws_numberOf.mono _ _
      | exact laws_sameParts.mono _ _ _
      | exact spec_DrawFrameText.mono _ _
      | exact spec_DrawReadFrame.mono _ _
      | exact spec_FrameText.mono _ _
      | exact spec_ReadFrame.mono _ _
      | exact LeO.none _
      | refine LeO.ite ?_ ?_
      | refine LeO.bind ?_ (fun _ => ?_)
theorem laws_FnFrames.mono : ∀ a0 a1 k, LeO (laws_FnFrames.f k a0 a1) (laws_FnFrames.f (k + 1) a0 a1) := by
  intro a0 a1 k
  obtain ⟨ih0, ih1, ih2, ih3, ih4⟩ := laws_FnFrames.mono_l k
  unfold laws_FnFrames.f
  repeat' first
      | (with_reducible exact ih0 _ _ _ _ _)
      | (with_reducible exact ih1 _)
      | (with_reducible exact ih2 _ _ _ _ _)
      | (with_reducible exact ih3 _ _ _ _)
      | (with_reducible exact ih4 _ _)
      | (with_reducible exact impl_FrameText.mono _ _)
      | (with_reducible exact impl_ReadFrame.mono _ _)
      | (with_reducible exact laws_numberOf.mono _ _)
      | (with_reducible exact laws_sameParts.mono _ _ _)
      | (with_reducible exact spec_DrawFrameText.mono _ _)
      | (with_reducible exact spec_DrawReadFrame.mono _ _)
      | (with_reducible exact spec_FrameText.mono _ _)
      | (with_reducible exact spec_ReadFrame.mono _ _)
      | (with_reducible exact LeO.refl _)
      | (with_reducible exact LeO.none _)
      | (with_reducible refine LeO.ite ?_ ?_)
      | (with_reducible refine LeO.bind ?_ (fun _ => ?_))
      | exact ih0 _ _ _ _ _
      | exact ih1 _
      | exact ih2 _ _ _ _ _
      | exact ih3 _ _ _ _
      | exact ih4 _ _
      | exact impl_FrameText.mono _ _
      | exact impl_ReadFrame.mono _ _
      | exact laws_numberOf.mono _ _
      | exact laws_sameParts.mono _ _ _
      | exact spec_DrawFrameText.mono _ _
      | exact spec_DrawReadFrame.mono _ _
      | exact spec_FrameText.mono _ _
      | exact spec_ReadFrame.mono _ _
      | exact LeO.none _
      | refine LeO.ite ?_ ?_
      | refine LeO.bind ?_ (fun _ => ?_)
set_option maxHeartbeats 8000000 in
set_option maxRecDepth 100000 in
theorem laws_FnFrames.calls (k : Nat) (A0 : Option Addr) (c0 : Nat) (l0 : List Int) (A1 : Option Addr) (c1 : Nat) (l1 : List Int) (r : Bool) (w : World) (hr0 : Kd.C (Kd.int .u8) w A0 l0.length l0) (hc0 : l0.length ≤ c0) (hr1 : Kd.C (Kd.int .u8) w A1 l1.length l1) (hc1 : l1.length ≤ c1) (h : laws_FnFrames.f k l0 l1 = some r) :
    Calls Try.prog 12 #[.slice A0 l0.length c0, .slice A1 l1.length c1] w fun e w' => e = .returned (.bool r) ∧ Below w.heap.size w w' := by
  have HR0 := Aside0.mk hr0
  have HC0 := Aside0.mk hc0
  clear hr0 hc0
  have HR1 := Aside0.mk hr1
  have HC1 := Aside0.mk hc1
  clear hr1 hc1
  have HB := Aside0.mk (Below.refl w.heap.size w)
  have H : (if (wrap64 ((l0.length : Int) + (l1.length : Int))) > 1048576 then (some true) else ((spec_DrawFrameText.f k l0).bind fun t404 => ((impl_FrameText.f k t404).bind fun bt407 => ((spec_FrameText.f k t404).bind fun bt409 => (if (bt407.2 != bt409.2) = true then (none) else (laws_FnFrames.j0 k l1 t404 bt407.1 bt407.2 (bt407.1.toList != bt409.1.toList))))))) = some r := h
  clear h
  by_cases c3 : (wrap64 ((l0.length : Int) + (l1.length : Int))) > 1048576
  · rw [if_pos c3] at H
    have c3b0 : decide (1048576 < (wrap64 ((l0.length : Int) + (l1.length : Int)))) = true := decide_eq_true c3
    clear c3
    as_aux_lemma =>
      obtain rfl := Option.some.inj H
      go_enter Try.func12, Try.ntmps12
      go_wp2
      go_ret
      exact ⟨by first | rfl | (simp [errW_none, errW_some] <;> rfl) | (simp [*, errW_none, errW_some] <;> rfl), by repeat (first | (with_reducible first | exact HB.out | apply below_alloc | apply pw_below_drewN | apply below_drew1) | exact HB.out)⟩
  · rw [if_neg c3] at H
    have c3b0 : decide (1048576 < (wrap64 ((l0.length : Int) + (l1.length : Int)))) = false := decide_eq_false c3
    clear c3
    replace H := Option.bind_eq_some_iff.mp H
    obtain ⟨t404, A40, H⟩ := H
    replace H : ((impl_FrameText.f k t404).bind fun bt407 => ((spec_FrameText.f k t404).bind fun bt409 => (if (bt407.2 != bt409.2) = true then (none) else (laws_FnFrames.j0 k l1 t404 bt407.1 bt407.2 (bt407.1.toList != bt409.1.toList))))) = some r := H
    have A4 := Aside0.mk A40
    clear A40
    replace H := Option.bind_eq_some_iff.mp H
    obtain ⟨⟨t407, t408⟩, A50, H⟩ := H
    replace H : ((spec_FrameText.f k t404).bind fun bt409 => (if (t408 != bt409.2) = true then (none) else (laws_FnFrames.j0 k l1 t404 t407 t408 (t407.toList != bt409.1.toList)))) = some r := H
    have A5 := Aside0.mk A50
    clear A50
    replace H := Option.bind_eq_some_iff.mp H
    obtain ⟨⟨t409, t410⟩, A60, H⟩ := H
    replace H : (if (t408 != t410) = true then (none) else (laws_FnFrames.j0 k l1 t404 t407 t408 (t407.toList != t409.toList))) = some r := H
    have A6 := Aside0.mk A60
    clear A60
    have HC7 := Aside0.mk H
    clear H
    go_enter Try.func12, Try.ntmps12
    go_upto_region 6 with (first | ((with_reducible refine gate_callee (f := 47) rfl ?_); refine goesL_ (some 47) rfl rfl Try.func47 (by kernel_rfl) rfl #[.slice A0 l0.length c0] rfl (by (try simp only [List.map_toArray, List.map_cons, List.map_nil]); first | done | rfl | (simp only [List.length_drop, List.length_take]; rfl)) ?_; (with_reducible refine (spec_DrawFrameText.calls k _ _ l0 t404 _ ?side1 ?side2 A4.out).mono ?_); (case side1 => repeat (first | exact HR0.out | (with_reducible refine Kd.C_alloc ?_ _) | (with_reducible refine Kd.C_drewN ?_ _) | (with_reducible refine Kd.C_drew ?_))); (case side2 => exact HC0.out); rintro e w8 ⟨v405, rfl, ho0, hb⟩; refine ⟨_, rfl, ?_⟩; have n0_ := Aside0.mk (Kd.S_lower ho0 (below_size (by repeat (first | (with_reducible first | exact HB.out | apply below_alloc | apply pw_below_drewN | apply below_drew1) | exact HB.out)))); have n1_ := Aside0.mk (below_step (by repeat (first | (with_reducible first | exact HB.out | apply below_alloc | apply pw_below_drewN | apply below_drew1) | exact HB.out)) hb); clear HB; have HO406 := n0_; have HB := n1_; clear n0_ n1_; (try clear hb); (try clear hb2); (try clear hk); (try clear hi); (try clear ho0); obtain ⟨Ao9, co9, eo9⟩ := Kd.S_slice HO406.out; subst eo9) | ((with_reducible refine gate_callee (f := 38) rfl ?_); refine goesL_ (some 50) rfl rfl Try.func38 (by kernel_rfl) rfl #[.slice Ao9 t404.length co9] rfl (by (try simp only [List.map_toArray, List.map_cons, List.map_nil]); first | done | rfl | (simp only [List.length_drop, List.length_take]; rfl)) ?_; (with_reducible refine (impl_FrameText.calls k _ _ t404 t407 t408 _ ?side1 ?side2 A5.out).mono ?_); (case side1 => repeat (first | exact (Kd.S_reads' HO406.out).2.2 | (with_reducible refine Kd.C_alloc ?_ _) | (with_reducible refine Kd.C_drewN ?_ _) | (with_reducible refine Kd.C_drew ?_))); (case side2 => exact (Kd.S_reads' HO406.out).2.1); rintro e w10 ⟨rfl, hb⟩; refine ⟨_, rfl, ?_⟩; have n0_ := Aside0.mk (Kd.S_below (by (with_reducible repeat (first | apply Kd.S_alloc | apply Kd.S_drewN | apply Kd.S_drew)); exact HO406.out) hb); have n1_ := Aside0.mk (below_step (by repeat (first | (with_reducible first | exact HB.out | apply below_alloc | apply pw_below_drewN | apply below_drew1) | exact HB.out)) hb); clear HO406; clear HB; have HO406 := n0_; have HB := n1_; clear n0_ n1_; (try clear hb); (try clear hb2); (try clear hk); (try clear hi)) | ((with_reducible refine gate_callee (f := 37) rfl ?_); refine goesL_ (some 55) rfl rfl Try.func37 (by kernel_rfl) rfl #[.slice Ao9 t404.length co9] rfl (by (try simp only [List.map_toArray, List.map_cons, List.map_nil]); first | done | rfl | (simp only [List.length_drop, List.length_take]; rfl)) ?_; (with_reducible refine (spec_FrameText.calls k _ _ t404 t409 t410 _ ?side1 ?side2 A6.out).mono ?_); (case side1 => repeat (first | exact (Kd.S_reads' HO406.out).2.2 | (with_reducible refine Kd.C_alloc ?_ _) | (with_reducible refine Kd.C_drewN ?_ _) | (with_reducible refine Kd.C_drew ?_))); (case side2 => exact (Kd.S_reads' HO406.out).2.1); rintro e w11 ⟨rfl, hb⟩; refine ⟨_, rfl, ?_⟩; have n0_ := Aside0.mk (Kd.S_below (by (with_reducible repeat (first | apply Kd.S_alloc | apply Kd.S_drewN | apply Kd.S_drew)); exact HO406.out) hb); have n1_ := Aside0.mk (below_step (by repeat (first | (with_reducible first | exact HB.out | apply below_alloc | apply pw_below_drewN | apply below_drew1) | exact HB.out)) hb); clear HO406; clear HB; have HO406 := n0_; have HB := n1_; clear n0_ n1_; (try clear hb); (try clear hb2); (try clear hk); (try clear hi)))
    (try simp only [Act.put, List.setIfInBounds_toArray, List.set_cons_zero, List.set_cons_succ])
    go_cut [65] (fun v65 wc => ∃ (kq : Nat) (x65_6 : Bool), v65 = .bool x65_6 ∧ Aside0 (laws_FnFrames.j0 kq l1 t404 t407 t408 x65_6 = some r) ∧ Aside0 (kq ≤ k) ∧ Aside0 (Kd.S k38 38 wc w.heap.size (fun _ => True) (.slice Ao9 t404.length co9) t404) ∧ Aside0 (Below w.heap.size w wc))
    case first =>
      have H := HC7.out
      clear HC7
      by_cases c12 : (t408 != t410) = true
      · rw [if_pos c12] at H
        exact absurd H (by simp)
      · rw [if_neg c12] at H
        have c12b0 : (t408 != t410) = false := by simpa using c12
        (try (have c12b1 : decide (t408 = t410) = true := by simpa using c12))
        (try (have c12b2 : (t408 == t410) = true := by simpa using c12))
        clear c12
        (first | rw [c12b0] | (simp only [i64_w, i32_w]; rw [c12b0]) | skip)
        as_aux_lemma =>
          have H' := Aside0.mk H
          clear H
          go_wp2
          go_meet
          case rel => exact ⟨_, ((t407.toList != t409.toList)), (by first | rfl | (simp; done) | (simp [*]; done)), H', ⟨by first | omega | exact Nat.le_refl _⟩, ⟨by (with_reducible repeat (first | apply Kd.S_alloc | apply Kd.S_drewN | apply Kd.S_drew)); exact HO406.out⟩, ⟨by repeat (first | (with_reducible first | exact HB.out | apply below_alloc | apply pw_below_drewN | apply below_drew1) | exact HB.out)⟩⟩
    case rest =>
      clear HC7
      try clear c1
      try clear p2
      try clear c3
      try clear c3b0
      try clear c4
      try clear p6
      try clear c12
      try clear c12b0
      try clear c12b1
      try clear c12b2
      obtain ⟨kq, x65_6, rfl, HA, HJ6, HO_5, HB⟩ := hcut
      cases kq with
      | zero => exact absurd HA.out (by simp [laws_FnFrames.j0])
      | succ kj6 =>
        have H := HA.out
        clear HA
        simp only [laws_FnFrames.j0] at H
        by_cases c13 : x65_6 = true
        · subst c13
          have H1 : (none) = some r := by rw [if_pos rfl] at H; exact H
          clear H
          have H := H1
          clear H1
          exact absurd H (by simp)
        · replace c13 := Bool.eq_false_iff.mpr c13
          subst c13
          have H1 : (if t408 = true then ((impl_ReadFrame.f kj6 t407).bind fun bt411 => (if bt411.2.2.2 = true then (if bt411.2.1 = 0 then (if bt411.2.2.1 = 0 then ((laws_sameParts.f kj6 bt411.1 t404).bind fun t417 => (laws_FnFrames.j1 kj6 l1 t404 t407 (!t417))) else (none)) else (none)) else (none))) else (laws_FnFrames.j3 kj6 l1)) = some r := by rw [if_neg (show ¬ (false = true) by decide)] at H; exact H
          clear H
          have H := H1
          clear H1
          have HC14 := Aside0.mk H
          clear H
          go_upto_if 66 with (fail)
          go_cut [] (fun wc => ∃ (kq : Nat), Aside0 (laws_FnFrames.j3 kq l1 = some r) ∧ Aside0 (kq ≤ kj6) ∧ Aside0 (Below w.heap.size w wc))
          case first =>
            have H := HC14.out
            clear HC14
            by_cases c15 : t408 = true
            · subst c15
              have H1 : ((impl_ReadFrame.f kj6 t407).bind fun bt411 => (if bt411.2.2.2 = true then (if bt411.2.1 = 0 then (if bt411.2.2.1 = 0 then ((laws_sameParts.f kj6 bt411.1 t404).bind fun t417 => (laws_FnFrames.j1 kj6 l1 t404 t407 (!t417))) else (none)) else (none)) else (none))) = some r := by rw [if_pos rfl] at H; exact H
              clear H
              have H := H1
              clear H1
              replace H := Option.bind_eq_some_iff.mp H
              obtain ⟨⟨t411, t412, t413, t414⟩, A160, H⟩ := H
              replace H : (if t414 = true then (if t412 = 0 then (if t413 = 0 then ((laws_sameParts.f kj6 t411 t404).bind fun t417 => (laws_FnFrames.j1 kj6 l1 t404 t407 (!t417))) else (none)) else (none)) else (none)) = some r := H
              have A16 := Aside0.mk A160
              clear A160
              have HC17 := Aside0.mk H
              clear H
              go_upto_region 10 with (first | ((with_reducible refine gate_callee (f := 40) rfl ?_); refine goesL_ (some 69) rfl rfl Try.func40 (by kernel_rfl) rfl #[.string t407] rfl (by (try simp only [List.map_toArray, List.map_cons, List.map_nil]); first | done | rfl | (simp only [List.length_drop, List.length_take]; rfl)) ?_; (with_reducible refine (impl_ReadFrame.calls kj6 t407 t411 t412 t413 t414 _ A16.out).mono ?_); rintro e w18 ⟨v415, rfl, ho0, hb⟩; refine ⟨_, rfl, ?_⟩; have n0_ := Aside0.mk (Kd.S_elder' (by (with_reducible repeat (first | apply Kd.S_alloc | apply Kd.S_drewN | apply Kd.S_drew)); exact HO_5.out) (Kd.S_base ho0) hb); have n1_ := Aside0.mk (Kd.S_lower (Kd.S_new' ho0 (Kd.S_lt (by (with_reducible repeat (first | apply Kd.S_alloc | apply Kd.S_drewN | apply Kd.S_drew)); exact HO_5.out))) (below_size (by repeat (first | (with_reducible first | exact HB.out | apply below_alloc | apply pw_below_drewN | apply below_drew1) | exact HB.out)))); have n2_ := Aside0.mk (below_step (by repeat (first | (with_reducible first | exact HB.out | apply below_alloc | apply pw_below_drewN | apply below_drew1) | exact HB.out)) hb); clear HO_5; clear HB; have HO_5 := n0_; have HO416 := n1_; have HB := n2_; clear n0_ n1_ n2_; (try clear hb); (try clear hb2); (try clear hk); (try clear hi); (try clear ho0)))
              (try simp only [Act.put, List.setIfInBounds_toArray, List.set_cons_zero, List.set_cons_succ])
              go_cut [89] (fun v89 wc => ∃ (kq : Nat) (x89_16 : Bool), v89 = .bool x89_16 ∧ Aside0 (laws_FnFrames.j1 kq l1 t404 t407 x89_16 = some r) ∧ Aside0 (kq ≤ kj6) ∧ Aside0 (Kd.S k38 38 wc w.heap.size (fun _ => True) (.slice Ao9 t404.length co9) t404) ∧ Aside0 (Below w.heap.size w wc))
              case first =>
                have H := HC17.out
                clear HC17
                by_cases c19 : t414 = true
                · subst c19
                  have H1 : (if t412 = 0 then (if t413 = 0 then ((laws_sameParts.f kj6 t411 t404).bind fun t417 => (laws_FnFrames.j1 kj6 l1 t404 t407 (!t417))) else (none)) else (none)) = some r := by rw [if_pos rfl] at H; exact H
                  clear H
                  have H := H1
                  clear H1
                  by_cases c20 : t412 = 0
                  · rw [if_pos c20] at H
                    have c20b0 : (t412 == 0) = true := beq_iff_eq.mpr c20
                    have c20b1 : (t412 != 0) = false := bne_eq_false_iff_eq.mpr c20
                    clear c20
                    (first | rw [c20b0] | (simp only [i64_w, i32_w]; rw [c20b0]) | skip)
                    by_cases c21 : t413 = 0
                    · rw [if_pos c21] at H
                      have c21b0 : (t413 == 0) = true := beq_iff_eq.mpr c21
                      have c21b1 : (t413 != 0) = false := bne_eq_false_iff_eq.mpr c21
                      clear c21
                      replace H := Option.bind_eq_some_iff.mp H
                      obtain ⟨t417, A220, H⟩ := H
                      replace H : (laws_FnFrames.j1 kj6 l1 t404 t407 (!t417)) = some r := H
                      have A22 := Aside0.mk A220
                      clear A220
                      as_aux_lemma =>
                        have H' := Aside0.mk H
                        clear H
                        obtain ⟨Ao23, co23, eo23⟩ := Kd.S_slice HO416.out
                        subst eo23
                        go_wp2_with (first | (go_at_call 45; (with_reducible refine (laws_sameParts.calls kj6 _ _ t411 _ _ t404 t417 _ ?side1 ?side2 ?side3 ?side4 A22.out).mono ?_); (case side1 => repeat (first | exact (Kd.S_reads' HO416.out).2.2 | (with_reducible refine Kd.C_alloc ?_ _) | (with_reducible refine Kd.C_drewN ?_ _) | (with_reducible refine Kd.C_drew ?_))); (case side2 => exact (Kd.S_reads' HO416.out).2.1); (case side3 => repeat (first | exact (Kd.S_reads' HO_5.out).2.2 | (with_reducible refine Kd.C_alloc ?_ _) | (with_reducible refine Kd.C_drewN ?_ _) | (with_reducible refine Kd.C_drew ?_))); (case side4 => exact (Kd.S_reads' HO_5.out).2.1); rintro e w24 ⟨rfl, hb⟩; have n0_ := Aside0.mk (Kd.S_below (by (with_reducible repeat (first | apply Kd.S_alloc | apply Kd.S_drewN | apply Kd.S_drew)); exact HO_5.out) hb); have n1_ := Aside0.mk (Kd.S_below (by (with_reducible repeat (first | apply Kd.S_alloc | apply Kd.S_drewN | apply Kd.S_drew)); exact HO416.out) hb); have n2_ := Aside0.mk (below_step (by repeat (first | (with_reducible first | exact HB.out | apply below_alloc | apply pw_below_drewN | apply below_drew1) | exact HB.out)) hb); clear HO_5; clear HO416; clear HB; have HO_5 := n0_; have HO416 := n1_; have HB := n2_; clear n0_ n1_ n2_; (try clear hb); (try clear hb2); (try clear hk); (try clear hi)))
                        go_meet
                        case rel => exact ⟨_, (!t417), (by first | rfl | (simp; done) | (simp [*]; done)), H', ⟨by have := HJ6.out; first | omega | exact Nat.le_refl _⟩, ⟨by (with_reducible repeat (first | apply Kd.S_alloc | apply Kd.S_drewN | apply Kd.S_drew)); exact Kd.S_mono HO_5.out (fun _ hk => trivial)⟩, ⟨by repeat (first | (with_reducible first | exact HB.out | apply below_alloc | apply pw_below_drewN | apply below_drew1) | exact HB.out)⟩⟩
                    · rw [if_neg c21] at H
                      exact absurd H (by simp)
                  · rw [if_neg c20] at H
                    exact absurd H (by simp)
                · replace c19 := Bool.eq_false_iff.mpr c19
                  subst c19
                  have H1 : (none) = some r := by rw [if_neg (show ¬ (false = true) by decide)] at H; exact H
                  clear H
                  have H := H1
                  clear H1
                  exact absurd H (by simp)
              case rest =>
                clear HC17
                try clear c1
                try clear c2
                try clear p2
                try clear c3
                try clear c3b0
                try clear c4
                try clear p6
                try clear c12
                try clear c12b0
                try clear c12b1
                try clear c12b2
                try clear c13
                try clear c15
                try clear c19
                try clear c20
                try clear c20b0
                try clear c20b1
                try clear c21
                try clear c21b0
                try clear c21b1
                try clear p2
                try clear p6
                obtain ⟨kq, x89_16, rfl, HA, HJ16, HO_5, HB⟩ := hcut
                cases kq with
                | zero => exact absurd HA.out (by simp [laws_FnFrames.j1])
                | succ kj16 =>
                  have H := HA.out
                  clear HA
                  simp only [laws_FnFrames.j1] at H
                  by_cases c25 : x89_16 = true
                  · subst c25
                    have H1 : (none) = some r := by rw [if_pos rfl] at H; exact H
                    clear H
                    have H := H1
                    clear H1
                    exact absurd H (by simp)
                  · replace c25 := Bool.eq_false_iff.mpr c25
                    subst c25
                    have H1 : (if (wrap64 ((t407.size : Int) + 3)) ≤ 200 then ((laws_numberOf.f kj16 l1).bind fun t418 => (if (wrap64 ((t404.length : Int) + 1)) = 0 then (none) else (if 0 ≤ (Int.tmod t418 (wrap64 ((t404.length : Int) + 1))) then (if (Int.tmod t418 (wrap64 ((t404.length : Int) + 1))) ≤ (t404.length : Int) then ((impl_FrameText.f kj16 (t404.take ((Int.tmod t418 (wrap64 ((t404.length : Int) + 1))) : Int).toNat)).bind fun bt423 => (if bt423.2 = true then (if bt423.1.size + 3 ≤ 9223372036854775807 then (if 0 ≤ (bt423.1.size : Int) then (if (bt423.1.size : Int) ≤ (t407.size : Int) then (if (bt423.1 ++ (⟨#[99, 1, 122]⟩ : ByteArray)).size + (t407.extract ((bt423.1.size : Int) : Int).toNat t407.size).size ≤ 9223372036854775807 then ((impl_ReadFrame.f kj16 ((bt423.1 ++ (⟨#[99, 1, 122]⟩ : ByteArray)) ++ (t407.extract ((bt423.1.size : Int) : Int).toNat t407.size))).bind fun bt425 => (if bt425.2.2.2 = true then (if bt425.2.1 = 1 then (if bt425.2.2.1 = 0 then ((laws_sameParts.f kj16 bt425.1 t404).bind fun t431 => (laws_FnFrames.j2 kj16 l1 (!t431))) else (none)) else (none)) else (none))) else (none)) else (none)) else (none)) else (none)) else (none))) else (none)) else (none)))) else (laws_FnFrames.j3 kj16 l1)) = some r := by rw [if_neg (show ¬ (false = true) by decide)] at H; exact H
                    clear H
                    have H := H1
                    clear H1
                    by_cases c26 : (wrap64 ((t407.size : Int) + 3)) ≤ 200
                    · rw [if_pos c26] at H
                      have c26b0 : decide ((wrap64 ((t407.size : Int) + 3)) ≤ 200) = true := decide_eq_true c26
                      clear c26
                      replace H := Option.bind_eq_some_iff.mp H
                      obtain ⟨t418, A270, H⟩ := H
                      replace H : (if (wrap64 ((t404.length : Int) + 1)) = 0 then (none) else (if 0 ≤ (Int.tmod t418 (wrap64 ((t404.length : Int) + 1))) then (if (Int.tmod t418 (wrap64 ((t404.length : Int) + 1))) ≤ (t404.length : Int) then ((impl_FrameText.f kj16 (t404.take ((Int.tmod t418 (wrap64 ((t404.length : Int) + 1))) : Int).toNat)).bind fun bt423 => (if bt423.2 = true then (if bt423.1.size + 3 ≤ 9223372036854775807 then (if 0 ≤ (bt423.1.size : Int) then (if (bt423.1.size : Int) ≤ (t407.size : Int) then (if (bt423.1 ++ (⟨#[99, 1, 122]⟩ : ByteArray)).size + (t407.extract ((bt423.1.size : Int) : Int).toNat t407.size).size ≤ 9223372036854775807 then ((impl_ReadFrame.f kj16 ((bt423.1 ++ (⟨#[99, 1, 122]⟩ : ByteArray)) ++ (t407.extract ((bt423.1.size : Int) : Int).toNat t407.size))).bind fun bt425 => (if bt425.2.2.2 = true then (if bt425.2.1 = 1 then (if bt425.2.2.1 = 0 then ((laws_sameParts.f kj16 bt425.1 t404).bind fun t431 => (laws_FnFrames.j2 kj16 l1 (!t431))) else (none)) else (none)) else (none))) else (none)) else (none)) else (none)) else (none)) else (none))) else (none)) else (none))) = some r := H
                      have A27 := Aside0.mk A270
                      clear A270
                      by_cases c28 : (wrap64 ((t404.length : Int) + 1)) = 0
                      · rw [if_pos c28] at H
                        exact absurd H (by simp)
                      · rw [if_neg c28] at H
                        have c28b0 : ((wrap64 ((t404.length : Int) + 1)) == 0) = false := beq_eq_false_iff_ne.mpr c28
                        have c28b1 : ((wrap64 ((t404.length : Int) + 1)) != 0) = true := bne_iff_ne.mpr c28
                        obtain ⟨ji29, hji29⟩ : ∃ j_ : Int, (Int.tmod t418 (wrap64 ((t404.length : Int) + 1))) = j_ := ⟨_, rfl⟩
                        replace H : (if 0 ≤ (ji29) then (if (ji29) ≤ (t404.length : Int) then ((impl_FrameText.f kj16 (t404.take ((ji29) : Int).toNat)).bind fun bt423 => (if bt423.2 = true then (if bt423.1.size + 3 ≤ 9223372036854775807 then (if 0 ≤ (bt423.1.size : Int) then (if (bt423.1.size : Int) ≤ (t407.size : Int) then (if (bt423.1 ++ (⟨#[99, 1, 122]⟩ : ByteArray)).size + (t407.extract ((bt423.1.size : Int) : Int).toNat t407.size).size ≤ 9223372036854775807 then ((impl_ReadFrame.f kj16 ((bt423.1 ++ (⟨#[99, 1, 122]⟩ : ByteArray)) ++ (t407.extract ((bt423.1.size : Int) : Int).toNat t407.size))).bind fun bt425 => (if bt425.2.2.2 = true then (if bt425.2.1 = 1 then (if bt425.2.2.1 = 0 then ((laws_sameParts.f kj16 bt425.1 t404).bind fun t431 => (laws_FnFrames.j2 kj16 l1 (!t431))) else (none)) else (none)) else (none))) else (none)) else (none)) else (none)) else (none)) else (none))) else (none)) else (none)) = some r := by first | (rw [hji29] at H; exact H) | (simp only [hji29] at H ⊢; exact H)
                        (try rw [hji29] at A27)
                        by_cases c30 : 0 ≤ (ji29)
                        · rw [if_pos c30] at H
                          have c30b0 := eq_true c30
                          have c30b1 : decide (0 ≤ (ji29)) = true := decide_eq_true c30
                          clear c30
                          by_cases c31 : (ji29) ≤ (t404.length : Int)
                          · rw [if_pos c31] at H
                            have c31b0 := eq_true c31
                            have c31b1 : decide ((ji29) ≤ (t404.length : Int)) = true := decide_eq_true c31
                            clear c31
                            obtain ⟨y419, hy419⟩ : ∃ y_ : List (S38), y_ = (t404.take ((ji29) : Int).toNat) := ⟨_, rfl⟩
                            replace H : ((impl_FrameText.f kj16 y419).bind fun bt423 => (if bt423.2 = true then (if bt423.1.size + 3 ≤ 9223372036854775807 then (if 0 ≤ (bt423.1.size : Int) then (if (bt423.1.size : Int) ≤ (t407.size : Int) then (if (bt423.1 ++ (⟨#[99, 1, 122]⟩ : ByteArray)).size + (t407.extract ((bt423.1.size : Int) : Int).toNat t407.size).size ≤ 9223372036854775807 then ((impl_ReadFrame.f kj16 ((bt423.1 ++ (⟨#[99, 1, 122]⟩ : ByteArray)) ++ (t407.extract ((bt423.1.size : Int) : Int).toNat t407.size))).bind fun bt425 => (if bt425.2.2.2 = true then (if bt425.2.1 = 1 then (if bt425.2.2.1 = 0 then ((laws_sameParts.f kj16 bt425.1 t404).bind fun t431 => (laws_FnFrames.j2 kj16 l1 (!t431))) else (none)) else (none)) else (none))) else (none)) else (none)) else (none)) else (none)) else (none))) = some r := by first | (rw [hy419]; with_reducible exact H) | (have H2_ := (Option.bind_some _ _).symm.trans H; rw [hy419]; with_reducible exact H2_) | (have H2_ := (Option.bind_some _ _).symm.trans H; with_reducible exact H2_) | with_reducible exact H | (rw [hy419]; exact H) | exact H
                            have Ny419 := Aside0.mk hy419
                            clear hy419
                            replace H := Option.bind_eq_some_iff.mp H
                            obtain ⟨⟨t423, t424⟩, A320, H⟩ := H
                            replace H : (if t424 = true then (if t423.size + 3 ≤ 9223372036854775807 then (if 0 ≤ (t423.size : Int) then (if (t423.size : Int) ≤ (t407.size : Int) then (if (t423 ++ (⟨#[99, 1, 122]⟩ : ByteArray)).size + (t407.extract ((t423.size : Int) : Int).toNat t407.size).size ≤ 9223372036854775807 then ((impl_ReadFrame.f kj16 ((t423 ++ (⟨#[99, 1, 122]⟩ : ByteArray)) ++ (t407.extract ((t423.size : Int) : Int).toNat t407.size))).bind fun bt425 => (if bt425.2.2.2 = true then (if bt425.2.1 = 1 then (if bt425.2.2.1 = 0 then ((laws_sameParts.f kj16 bt425.1 t404).bind fun t431 => (laws_FnFrames.j2 kj16 l1 (!t431))) else (none)) else (none)) else (none))) else (none)) else (none)) else (none)) else (none)) else (none)) = some r := H
                            have A32 := Aside0.mk A320
                            clear A320
                            by_cases c33 : t424 = true
                            · subst c33
                              have H1 : (if t423.size + 3 ≤ 9223372036854775807 then (if 0 ≤ (t423.size : Int) then (if (t423.size : Int) ≤ (t407.size : Int) then (if (t423 ++ (⟨#[99, 1, 122]⟩ : ByteArray)).size + (t407.extract ((t423.size : Int) : Int).toNat t407.size).size ≤ 9223372036854775807 then ((impl_ReadFrame.f kj16 ((t423 ++ (⟨#[99, 1, 122]⟩ : ByteArray)) ++ (t407.extract ((t423.size : Int) : Int).toNat t407.size))).bind fun bt425 => (if bt425.2.2.2 = true then (if bt425.2.1 = 1 then (if bt425.2.2.1 = 0 then ((laws_sameParts.f kj16 bt425.1 t404).bind fun t431 => (laws_FnFrames.j2 kj16 l1 (!t431))) else (none)) else (none)) else (none))) else (none)) else (none)) else (none)) else (none)) = some r := by rw [if_pos rfl] at H; exact H
                              clear H
                              have H := H1
                              clear H1
                              by_cases c34 : t423.size + 3 ≤ 9223372036854775807
                              · rw [if_pos c34] at H
                                have c34b0 := eq_true c34
                                have c34b1 : decide (t423.size + 3 ≤ 9223372036854775807) = true := decide_eq_true c34
                                try have c34b2 : (9223372036854775807 < t423.size + 3) = False := eq_false (Nat.not_lt.2 c34)
                                by_cases c35 : 0 ≤ (t423.size : Int)
                                · rw [if_pos c35] at H
                                  have c35b0 := eq_true c35
                                  have c35b1 : decide (0 ≤ (t423.size : Int)) = true := decide_eq_true c35
                                  clear c35
                                  by_cases c36 : (t423.size : Int) ≤ (t407.size : Int)
                                  · rw [if_pos c36] at H
                                    have c36b0 := eq_true c36
                                    have c36b1 : decide ((t423.size : Int) ≤ (t407.size : Int)) = true := decide_eq_true c36
                                    clear c36
                                    by_cases c37 : (t423 ++ (⟨#[99, 1, 122]⟩ : ByteArray)).size + (t407.extract ((t423.size : Int) : Int).toNat t407.size).size ≤ 9223372036854775807
                                    · rw [if_pos c37] at H
                                      have c37b0 := eq_true c37
                                      have c37b1 : decide ((t423 ++ (⟨#[99, 1, 122]⟩ : ByteArray)).size + (t407.extract ((t423.size : Int) : Int).toNat t407.size).size ≤ 9223372036854775807) = true := decide_eq_true c37
                                      try have c37b2 : (9223372036854775807 < (t423 ++ (⟨#[99, 1, 122]⟩ : ByteArray)).size + (t407.extract ((t423.size : Int) : Int).toNat t407.size).size) = False := eq_false (Nat.not_lt.2 c37)
                                      try (have c37b3 := c37b2; simp only [Int.toNat_natCast, ByteArray.size_append, ByteArray.size_extract, Nat.min_self, show (⟨#[99, 1, 122]⟩ : ByteArray).size = 3 from rfl] at c37b3)
                                      replace H := Option.bind_eq_some_iff.mp H
                                      obtain ⟨⟨t425, t426, t427, t428⟩, A380, H⟩ := H
                                      replace H : (if t428 = true then (if t426 = 1 then (if t427 = 0 then ((laws_sameParts.f kj16 t425 t404).bind fun t431 => (laws_FnFrames.j2 kj16 l1 (!t431))) else (none)) else (none)) else (none)) = some r := H
                                      have A38 := Aside0.mk A380
                                      clear A380
                                      have HC39 := Aside0.mk H
                                      clear H
                                      go_upto_region 18 with (first | ((with_reducible refine gate_callee (f := 48) rfl ?_); refine goesL_ (some 95) rfl rfl Try.func48 (by kernel_rfl) rfl #[.slice A1 l1.length c1] rfl (by (try simp only [List.map_toArray, List.map_cons, List.map_nil]); first | done | rfl | (simp only [List.length_drop, List.length_take]; rfl)) ?_; (with_reducible refine (laws_numberOf.calls kj16 _ _ l1 t418 _ ?side1 ?side2 A27.out).mono ?_); (case side1 => repeat (first | exact (Kd.C_below HR1.out HB.out) | (with_reducible refine Kd.C_alloc ?_ _) | (with_reducible refine Kd.C_drewN ?_ _) | (with_reducible refine Kd.C_drew ?_))); (case side2 => exact HC1.out); rintro e w' ⟨rfl, ⟨nd, rfl⟩⟩; refine ⟨_, rfl, ?_⟩; have q40 : ((ji29) : Int) ≤ ((t404.length : Int) : Int) := of_decide_eq_true (by first | (with_reducible assumption) | assumption); obtain ⟨i040, hi040, _, hsz40, _⟩ := info_parts info38; have hroom40 : t404.length ≤ co9 := (Kd.S_reads' HO_5.out).2.1; have hC40 : Kd.C k38 _ Ao9 t404.length t404 := (Kd.S_reads' HO_5.out).2.2; have hcut40 := cut_to (P := Try.prog) 45 38 .i64 Try.underlying45 hi040 Ao9 t404.length co9 (ji29) (of_decide_eq_true (by first | (with_reducible assumption) | assumption)) q40 hroom40; have hr40 := Kd.C_take (m := ((ji29) : Int).toNat) hC40 (by omega); have hy40 : y419.length = ((ji29) : Int).toNat := (by rw [Ny419.out, List.length_take]; omega); rw [← Ny419.out] at hr40; rw [← hy40] at hcut40; have HR422 := Aside0.mk hr40; have HC422 := Aside0.mk (show y419.length ≤ co9 from by omega); clear hr40 hC40 hroom40 hi040 hsz40; have KY40 := Aside0.mk hy40; clear hy40; have KL40 := Aside0.mk (show ((ji29) : Int).toNat ≤ t404.length from by omega); replace q40 := eq_true q40) | ((with_reducible refine gate_callee (f := 38) rfl ?_); refine goesL_ (some 104) rfl rfl Try.func38 (by kernel_rfl) rfl #[.slice Ao9 y419.length co9] rfl (by (try simp only [List.map_toArray, List.map_cons, List.map_nil]); first | done | rfl | (simp only [List.length_drop, List.length_take]; rfl)) ?_; (with_reducible refine (impl_FrameText.calls kj16 _ _ y419 t423 true _ ?side1 ?side2 A32.out).mono ?_); (case side1 => repeat (first | exact (by repeat (first | (with_reducible exact HR422.out) | (with_reducible refine Kd.C_alloc ?_ _) | (with_reducible refine Kd.C_drewN ?_ _) | (with_reducible refine Kd.C_drew ?_) | exact HR422.out)) | (with_reducible refine Kd.C_alloc ?_ _) | (with_reducible refine Kd.C_drewN ?_ _) | (with_reducible refine Kd.C_drew ?_))); (case side2 => exact HC422.out); rintro e w41 ⟨rfl, hb⟩; refine ⟨_, rfl, ?_⟩; have n0_ := Aside0.mk (Kd.S_below (by (with_reducible repeat (first | apply Kd.S_alloc | apply Kd.S_drewN | apply Kd.S_drew)); exact HO_5.out) hb); have n1_ := Aside0.mk (Kd.C_below (by repeat (first | (with_reducible exact HR422.out) | (with_reducible refine Kd.C_alloc ?_ _) | (with_reducible refine Kd.C_drewN ?_ _) | (with_reducible refine Kd.C_drew ?_) | exact HR422.out)) hb); have n2_ := Aside0.mk (below_step (by repeat (first | (with_reducible first | exact HB.out | apply below_alloc | apply pw_below_drewN | apply below_drew1) | exact HB.out)) hb); clear HO_5; clear HR422; clear HB; have HO_5 := n0_; have HR422 := n1_; have HB := n2_; clear n0_ n1_ n2_; (try clear hb); (try clear hb2); (try clear hk); (try clear hi)) | ((with_reducible refine gate_callee (f := 40) rfl ?_); refine goesL_ (some 117) rfl rfl Try.func40 (by kernel_rfl) rfl #[.string ((t423 ++ (⟨#[99, 1, 122]⟩ : ByteArray)) ++ (t407.extract ((t423.size : Int) : Int).toNat t407.size))] rfl (by (try simp only [List.map_toArray, List.map_cons, List.map_nil]); first | done | rfl | (simp only [List.length_drop, List.length_take]; rfl)) ?_; (with_reducible refine (impl_ReadFrame.calls kj16 ((t423 ++ (⟨#[99, 1, 122]⟩ : ByteArray)) ++ (t407.extract ((t423.size : Int) : Int).toNat t407.size)) t425 t426 t427 t428 _ A38.out).mono ?_); rintro e w42 ⟨v429, rfl, ho0, hb⟩; refine ⟨_, rfl, ?_⟩; have n0_ := Aside0.mk (Kd.S_elder' (by (with_reducible repeat (first | apply Kd.S_alloc | apply Kd.S_drewN | apply Kd.S_drew)); exact HO_5.out) (Kd.S_base ho0) hb); have n1_ := Aside0.mk (Kd.S_lower (Kd.S_new' ho0 (Kd.S_lt (by (with_reducible repeat (first | apply Kd.S_alloc | apply Kd.S_drewN | apply Kd.S_drew)); exact HO_5.out))) (below_size (by repeat (first | (with_reducible first | exact HB.out | apply below_alloc | apply pw_below_drewN | apply below_drew1) | exact HB.out)))); have n2_ := Aside0.mk (Kd.C_below (by repeat (first | (with_reducible exact HR422.out) | (with_reducible refine Kd.C_alloc ?_ _) | (with_reducible refine Kd.C_drewN ?_ _) | (with_reducible refine Kd.C_drew ?_) | exact HR422.out)) hb); have n3_ := Aside0.mk (below_step (by repeat (first | (with_reducible first | exact HB.out | apply below_alloc | apply pw_below_drewN | apply below_drew1) | exact HB.out)) hb); clear HO_5; clear HR422; clear HB; have HO_5 := n0_; have HO430 := n1_; have HR422 := n2_; have HB := n3_; clear n0_ n1_ n2_ n3_; (try clear hb); (try clear hb2); (try clear hk); (try clear hi); (try clear ho0)))
                                      (try simp only [Act.put, List.setIfInBounds_toArray, List.set_cons_zero, List.set_cons_succ])
                                      go_cut [137] (fun v137 wc => ∃ (kq : Nat) (x137_38 : Bool), v137 = .bool x137_38 ∧ Aside0 (laws_FnFrames.j2 kq l1 x137_38 = some r) ∧ Aside0 (kq ≤ kj16) ∧ Aside0 (Kd.C k38 wc Ao9 y419.length y419) ∧ Aside0 (Below w.heap.size w wc))
                                      case first =>
                                        have H := HC39.out
                                        clear HC39
                                        by_cases c43 : t428 = true
                                        · subst c43
                                          have H1 : (if t426 = 1 then (if t427 = 0 then ((laws_sameParts.f kj16 t425 t404).bind fun t431 => (laws_FnFrames.j2 kj16 l1 (!t431))) else (none)) else (none)) = some r := by rw [if_pos rfl] at H; exact H
                                          clear H
                                          have H := H1
                                          clear H1
                                          by_cases c44 : t426 = 1
                                          · rw [if_pos c44] at H
                                            have c44b0 : (t426 == 1) = true := beq_iff_eq.mpr c44
                                            have c44b1 : (t426 != 1) = false := bne_eq_false_iff_eq.mpr c44
                                            clear c44
                                            (first | rw [c44b0] | (simp only [i64_w, i32_w]; rw [c44b0]) | skip)
                                            by_cases c45 : t427 = 0
                                            · rw [if_pos c45] at H
                                              have c45b0 : (t427 == 0) = true := beq_iff_eq.mpr c45
                                              have c45b1 : (t427 != 0) = false := bne_eq_false_iff_eq.mpr c45
                                              clear c45
                                              replace H := Option.bind_eq_some_iff.mp H
                                              obtain ⟨t431, A460, H⟩ := H
                                              replace H : (laws_FnFrames.j2 kj16 l1 (!t431)) = some r := H
                                              have A46 := Aside0.mk A460
                                              clear A460
                                              as_aux_lemma =>
                                                have H' := Aside0.mk H
                                                clear H
                                                obtain ⟨Ao47, co47, eo47⟩ := Kd.S_slice HO430.out
                                                subst eo47
                                                go_wp2_with (first | (go_at_call 45; (with_reducible refine (laws_sameParts.calls kj16 _ _ t425 _ _ t404 t431 _ ?side1 ?side2 ?side3 ?side4 A46.out).mono ?_); (case side1 => repeat (first | exact (Kd.S_reads' HO430.out).2.2 | (with_reducible refine Kd.C_alloc ?_ _) | (with_reducible refine Kd.C_drewN ?_ _) | (with_reducible refine Kd.C_drew ?_))); (case side2 => exact (Kd.S_reads' HO430.out).2.1); (case side3 => repeat (first | exact (Kd.S_reads' HO_5.out).2.2 | (with_reducible refine Kd.C_alloc ?_ _) | (with_reducible refine Kd.C_drewN ?_ _) | (with_reducible refine Kd.C_drew ?_))); (case side4 => exact (Kd.S_reads' HO_5.out).2.1); rintro e w48 ⟨rfl, hb⟩; have n0_ := Aside0.mk (Kd.S_below (by (with_reducible repeat (first | apply Kd.S_alloc | apply Kd.S_drewN | apply Kd.S_drew)); exact HO_5.out) hb); have n1_ := Aside0.mk (Kd.S_below (by (with_reducible repeat (first | apply Kd.S_alloc | apply Kd.S_drewN | apply Kd.S_drew)); exact HO430.out) hb); have n2_ := Aside0.mk (Kd.C_below (by repeat (first | (with_reducible exact HR422.out) | (with_reducible refine Kd.C_alloc ?_ _) | (with_reducible refine Kd.C_drewN ?_ _) | (with_reducible refine Kd.C_drew ?_) | exact HR422.out)) hb); have n3_ := Aside0.mk (below_step (by repeat (first | (with_reducible first | exact HB.out | apply below_alloc | apply pw_below_drewN | apply below_drew1) | exact HB.out)) hb); clear HO_5; clear HO430; clear HR422; clear HB; have HO_5 := n0_; have HO430 := n1_; have HR422 := n2_; have HB := n3_; clear n0_ n1_ n2_ n3_; (try clear hb); (try clear hb2); (try clear hk); (try clear hi)))
                                                go_meet
                                                case rel => exact ⟨_, (!t431), (by first | rfl | (simp; done) | (simp [*]; done)), H', ⟨by have := HJ6.out; have := HJ16.out; first | omega | exact Nat.le_refl _⟩, ⟨by repeat (first | (with_reducible exact HR422.out) | (with_reducible refine Kd.C_alloc ?_ _) | (with_reducible refine Kd.C_drewN ?_ _) | (with_reducible refine Kd.C_drew ?_) | exact HR422.out)⟩, ⟨by repeat (first | (with_reducible first | exact HB.out | apply below_alloc | apply pw_below_drewN | apply below_drew1) | exact HB.out)⟩⟩
                                            · rw [if_neg c45] at H
                                              exact absurd H (by simp)
                                          · rw [if_neg c44] at H
                                            exact absurd H (by simp)
                                        · replace c43 := Bool.eq_false_iff.mpr c43
                                          subst c43
                                          have H1 : (none) = some r := by rw [if_neg (show ¬ (false = true) by decide)] at H; exact H
                                          clear H
                                          have H := H1
                                          clear H1
                                          exact absurd H (by simp)
                                      case rest =>
                                        clear HC39
                                        try clear c1
                                        try clear c2
                                        try clear p2
                                        try clear c3
                                        try clear c3b0
                                        try clear c4
                                        try clear q4
                                        try clear p6
                                        try clear c12
                                        try clear c12b0
                                        try clear c12b1
                                        try clear c12b2
                                        try clear c13
                                        try clear c15
                                        try clear c19
                                        try clear c20
                                        try clear c20b0
                                        try clear c20b1
                                        try clear c21
                                        try clear c21b0
                                        try clear c21b1
                                        try clear c25
                                        try clear c26
                                        try clear c26b0
                                        try clear c28
                                        try clear c28b0
                                        try clear c28b1
                                        try clear c30
                                        try clear c30b0
                                        try clear c30b1
                                        try clear c31
                                        try clear c31b0
                                        try clear c31b1
                                        try clear c33
                                        try clear c34
                                        try clear c34b0
                                        try clear c34b1
                                        try clear c34b2
                                        try clear c35
                                        try clear c35b0
                                        try clear c35b1
                                        try clear c36
                                        try clear c36b0
                                        try clear c36b1
                                        try clear c37
                                        try clear c37b0
                                        try clear c37b1
                                        try clear c37b2
                                        try clear c38
                                        try clear c40
                                        try clear q40
                                        try clear c43
                                        try clear c44
                                        try clear c44b0
                                        try clear c44b1
                                        try clear c45
                                        try clear c45b0
                                        try clear c45b1
                                        try clear c47
                                        try clear c48
                                        try clear p2
                                        try clear p6
                                        try clear q40
                                        obtain ⟨kq, x137_38, rfl, HA, HJ38, HR422, HB⟩ := hcut
                                        cases kq with
                                        | zero => exact absurd HA.out (by simp [laws_FnFrames.j2])
                                        | succ kj38 =>
                                          have H := HA.out
                                          clear HA
                                          simp only [laws_FnFrames.j2] at H
                                          by_cases c49 : x137_38 = true
                                          · subst c49
                                            have H1 : (none) = some r := by rw [if_pos rfl] at H; exact H
                                            clear H
                                            have H := H1
                                            clear H1
                                            exact absurd H (by simp)
                                          · replace c49 := Bool.eq_false_iff.mpr c49
                                            subst c49
                                            have H1 : (laws_FnFrames.j3 kj38 l1) = some r := by rw [if_neg (show ¬ (false = true) by decide)] at H; exact H
                                            clear H
                                            have H := H1
                                            clear H1
                                            as_aux_lemma =>
                                              have H' := Aside0.mk H
                                              clear H
                                              go_wp2
                                              go_meet
                                              case rel => exact ⟨_, H', ⟨by have := HJ6.out; have := HJ16.out; have := HJ38.out; first | omega | exact Nat.le_refl _⟩, ⟨by repeat (first | (with_reducible first | exact HB.out | apply below_alloc | apply pw_below_drewN | apply below_drew1) | exact HB.out)⟩⟩
                                    · rw [if_neg c37] at H
                                      exact absurd H (by simp)
                                  · rw [if_neg c36] at H
                                    exact absurd H (by simp)
                                · rw [if_neg c35] at H
                                  exact absurd H (by simp)
                              · rw [if_neg c34] at H
                                exact absurd H (by simp)
                            · replace c33 := Bool.eq_false_iff.mpr c33
                              subst c33
                              have H1 : (none) = some r := by rw [if_neg (show ¬ (false = true) by decide)] at H; exact H
                              clear H
                              have H := H1
                              clear H1
                              exact absurd H (by simp)
                          · rw [if_neg c31] at H
                            exact absurd H (by simp)
                        · rw [if_neg c30] at H
                          exact absurd H (by simp)
                    · rw [if_neg c26] at H
                      have c26b0 : decide ((wrap64 ((t407.size : Int) + 3)) ≤ 200) = false := decide_eq_false c26
                      clear c26
                      as_aux_lemma =>
                        have H' := Aside0.mk H
                        clear H
                        go_wp2
                        go_meet
                        case rel => exact ⟨_, H', ⟨by have := HJ6.out; have := HJ16.out; first | omega | exact Nat.le_refl _⟩, ⟨by repeat (first | (with_reducible first | exact HB.out | apply below_alloc | apply pw_below_drewN | apply below_drew1) | exact HB.out)⟩⟩
            · replace c15 := Bool.eq_false_iff.mpr c15
              subst c15
              have H1 : (laws_FnFrames.j3 kj6 l1) = some r := by rw [if_neg (show ¬ (false = true) by decide)] at H; exact H
              clear H
              have H := H1
              clear H1
              as_aux_lemma =>
                have H' := Aside0.mk H
                clear H
                go_wp2
                go_meet
                case rel => exact ⟨_, H', ⟨by have := HJ6.out; first | omega | exact Nat.le_refl _⟩, ⟨by repeat (first | (with_reducible first | exact HB.out | apply below_alloc | apply pw_below_drewN | apply below_drew1) | exact HB.out)⟩⟩
          case rest =>
            clear HC14
            try clear c1
            try clear c2
            try clear p2
            try clear c3
            try clear c3b0
            try clear c4
            try clear q4
            try clear p6
            try clear c12
            try clear c12b0
            try clear c12b1
            try clear c12b2
            try clear c13
            try clear c15
            try clear c19
            try clear c20
            try clear c20b0
            try clear c20b1
            try clear c21
            try clear c21b0
            try clear c21b1
            try clear c25
            try clear c26
            try clear c26b0
            try clear c28
            try clear c28b0
            try clear c28b1
            try clear c30
            try clear c30b0
            try clear c30b1
            try clear c31
            try clear c31b0
            try clear c31b1
            try clear c33
            try clear c34
            try clear c34b0
            try clear c34b1
            try clear c34b2
            try clear c35
            try clear c35b0
            try clear c35b1
            try clear c36
            try clear c36b0
            try clear c36b1
            try clear c37
            try clear c37b0
            try clear c37b1
            try clear c37b2
            try clear c38
            try clear c40
            try clear q40
            try clear c43
            try clear c44
            try clear c44b0
            try clear c44b1
            try clear c45
            try clear c45b0
            try clear c45b1
            try clear c47
            try clear c48
            try clear c49
            try clear p2
            try clear p6
            try clear q4
            try clear q40
            obtain ⟨kq, HA, HJ13, HB⟩ := hcut
            cases kq with
            | zero => exact absurd HA.out (by simp [laws_FnFrames.j3])
            | succ kj13 =>
              have H := HA.out
              clear HA
              simp only [laws_FnFrames.j3] at H
              replace H := Option.bind_eq_some_iff.mp H
              obtain ⟨t432, A500, H⟩ := H
              replace H : ((impl_ReadFrame.f kj13 t432).bind fun bt433 => ((spec_ReadFrame.f kj13 t432).bind fun bt439 => ((impl_SkipPart.f t432).bind fun bt445 => ((spec_SkipPart.f t432).bind fun bt449 => (if (bt433.2.2.2 != bt439.2.2.2) = true then (none) else (if bt433.2.1 = bt439.2.1 then (if bt433.2.2.1 = bt439.2.2.1 then ((laws_sameParts.f kj13 bt433.1 bt439.1).bind fun t453 => (if t453 = true then (if (bt445.2.2.2 != bt449.2.2.2) = true then (none) else (if bt445.1 = bt449.1 then (if bt445.2.1 = bt449.2.1 then (laws_FnFrames.j4 kj13 t432 bt433.1 bt433.2.1 bt433.2.2.2 (bt445.2.2.1.toList != bt449.2.2.1.toList)) else (none)) else (none))) else (none))) else (none)) else (none))))))) = some r := H
              have A50 := Aside0.mk A500
              clear A500
              replace H := Option.bind_eq_some_iff.mp H
              obtain ⟨⟨t433, t434, t435, t436⟩, A510, H⟩ := H
              replace H : ((spec_ReadFrame.f kj13 t432).bind fun bt439 => ((impl_SkipPart.f t432).bind fun bt445 => ((spec_SkipPart.f t432).bind fun bt449 => (if (t436 != bt439.2.2.2) = true then (none) else (if t434 = bt439.2.1 then (if t435 = bt439.2.2.1 then ((laws_sameParts.f kj13 t433 bt439.1).bind fun t453 => (if t453 = true then (if (bt445.2.2.2 != bt449.2.2.2) = true then (none) else (if bt445.1 = bt449.1 then (if bt445.2.1 = bt449.2.1 then (laws_FnFrames.j4 kj13 t432 t433 t434 t436 (bt445.2.2.1.toList != bt449.2.2.1.toList)) else (none)) else (none))) else (none))) else (none)) else (none)))))) = some r := H
              have A51 := Aside0.mk A510
              clear A510
              replace H := Option.bind_eq_some_iff.mp H
              obtain ⟨⟨t439, t440, t441, t442⟩, A520, H⟩ := H
              replace H : ((impl_SkipPart.f t432).bind fun bt445 => ((spec_SkipPart.f t432).bind fun bt449 => (if (t436 != t442) = true then (none) else (if t434 = t440 then (if t435 = t441 then ((laws_sameParts.f kj13 t433 t439).bind fun t453 => (if t453 = true then (if (bt445.2.2.2 != bt449.2.2.2) = true then (none) else (if bt445.1 = bt449.1 then (if bt445.2.1 = bt449.2.1 then (laws_FnFrames.j4 kj13 t432 t433 t434 t436 (bt445.2.2.1.toList != bt449.2.2.1.toList)) else (none)) else (none))) else (none))) else (none)) else (none))))) = some r := H
              have A52 := Aside0.mk A520
              clear A520
              replace H := Option.bind_eq_some_iff.mp H
              obtain ⟨⟨t445, t446, t447, t448⟩, A530, H⟩ := H
              replace H : ((spec_SkipPart.f t432).bind fun bt449 => (if (t436 != t442) = true then (none) else (if t434 = t440 then (if t435 = t441 then ((laws_sameParts.f kj13 t433 t439).bind fun t453 => (if t453 = true then (if (t448 != bt449.2.2.2) = true then (none) else (if t445 = bt449.1 then (if t446 = bt449.2.1 then (laws_FnFrames.j4 kj13 t432 t433 t434 t436 (t447.toList != bt449.2.2.1.toList)) else (none)) else (none))) else (none))) else (none)) else (none)))) = some r := H
              have A53 := Aside0.mk A530
              clear A530
              replace H := Option.bind_eq_some_iff.mp H
              obtain ⟨⟨t449, t450, t451, t452⟩, A540, H⟩ := H
              replace H : (if (t436 != t442) = true then (none) else (if t434 = t440 then (if t435 = t441 then ((laws_sameParts.f kj13 t433 t439).bind fun t453 => (if t453 = true then (if (t448 != t452) = true then (none) else (if t445 = t449 then (if t446 = t450 then (laws_FnFrames.j4 kj13 t432 t433 t434 t436 (t447.toList != t451.toList)) else (none)) else (none))) else (none))) else (none)) else (none))) = some r := H
              have A54 := Aside0.mk A540
              clear A540
              have HC55 := Aside0.mk H
              clear H
              go_upto_region 25 with (first | ((with_reducible refine gate_callee (f := 49) rfl ?_); refine goesL_ (some 139) rfl rfl Try.func49 (by kernel_rfl) rfl #[.slice A1 l1.length c1] rfl (by (try simp only [List.map_toArray, List.map_cons, List.map_nil]); first | done | rfl | (simp only [List.length_drop, List.length_take]; rfl)) ?_; (with_reducible refine (spec_DrawReadFrame.calls kj13 _ _ l1 t432 _ ?side1 ?side2 A50.out).mono ?_); (case side1 => repeat (first | exact (Kd.C_below HR1.out HB.out) | (with_reducible refine Kd.C_alloc ?_ _) | (with_reducible refine Kd.C_drewN ?_ _) | (with_reducible refine Kd.C_drew ?_))); (case side2 => exact HC1.out); rintro e w56 ⟨rfl, hb⟩; refine ⟨_, rfl, ?_⟩; have n0_ := Aside0.mk (below_step (by repeat (first | (with_reducible first | exact HB.out | apply below_alloc | apply pw_below_drewN | apply below_drew1) | exact HB.out)) hb); clear HB; have HB := n0_; clear n0_; (try clear hb); (try clear hb2); (try clear hk); (try clear hi)) | ((with_reducible refine gate_callee (f := 40) rfl ?_); refine goesL_ (some 142) rfl rfl Try.func40 (by kernel_rfl) rfl #[.string t432] rfl (by (try simp only [List.map_toArray, List.map_cons, List.map_nil]); first | done | rfl | (simp only [List.length_drop, List.length_take]; rfl)) ?_; (with_reducible refine (impl_ReadFrame.calls kj13 t432 t433 t434 t435 t436 _ A51.out).mono ?_); rintro e w57 ⟨v437, rfl, ho0, hb⟩; refine ⟨_, rfl, ?_⟩; have n0_ := Aside0.mk (Kd.S_lower ho0 (below_size (by repeat (first | (with_reducible first | exact HB.out | apply below_alloc | apply pw_below_drewN | apply below_drew1) | exact HB.out)))); have n1_ := Aside0.mk (below_step (by repeat (first | (with_reducible first | exact HB.out | apply below_alloc | apply pw_below_drewN | apply below_drew1) | exact HB.out)) hb); clear HB; have HO438 := n0_; have HB := n1_; clear n0_ n1_; (try clear hb); (try clear hb2); (try clear hk); (try clear hi); (try clear ho0)) | ((with_reducible refine gate_callee (f := 39) rfl ?_); refine goesL_ (some 149) rfl rfl Try.func39 (by kernel_rfl) rfl #[.string t432] rfl (by (try simp only [List.map_toArray, List.map_cons, List.map_nil]); first | done | rfl | (simp only [List.length_drop, List.length_take]; rfl)) ?_; (with_reducible refine (spec_ReadFrame.calls kj13 t432 t439 t440 t441 t442 _ A52.out).mono ?_); rintro e w58 ⟨v443, rfl, ho0, hb⟩; refine ⟨_, rfl, ?_⟩; have n0_ := Aside0.mk (Kd.S_elder' (by (with_reducible repeat (first | apply Kd.S_alloc | apply Kd.S_drewN | apply Kd.S_drew)); exact HO438.out) (Kd.S_base ho0) hb); have n1_ := Aside0.mk (Kd.S_lower (Kd.S_new' ho0 (Kd.S_lt (by (with_reducible repeat (first | apply Kd.S_alloc | apply Kd.S_drewN | apply Kd.S_drew)); exact HO438.out))) (below_size (by repeat (first | (with_reducible first | exact HB.out | apply below_alloc | apply pw_below_drewN | apply below_drew1) | exact HB.out)))); have n2_ := Aside0.mk (below_step (by repeat (first | (with_reducible first | exact HB.out | apply below_alloc | apply pw_below_drewN | apply below_drew1) | exact HB.out)) hb); clear HO438; clear HB; have HO438 := n0_; have HO444 := n1_; have HB := n2_; clear n0_ n1_ n2_; (try clear hb); (try clear hb2); (try clear hk); (try clear hi); (try clear ho0)) | ((with_reducible refine gate_callee (f := 14) rfl ?_); refine goesL_ (some 156) rfl rfl Try.func14 (by kernel_rfl) rfl #[.string t432] rfl (by (try simp only [List.map_toArray, List.map_cons, List.map_nil]); first | done | rfl | (simp only [List.length_drop, List.length_take]; rfl)) ?_; (with_reducible refine (impl_SkipPart.calls t432 t445 t446 t447 t448 _ A53.out).mono ?_); rintro e w' ⟨rfl, ⟨nd, rfl⟩⟩; refine ⟨_, rfl, ?_⟩) | ((with_reducible refine gate_callee (f := 13) rfl ?_); refine goesL_ (some 163) rfl rfl Try.func13 (by kernel_rfl) rfl #[.string t432] rfl (by (try simp only [List.map_toArray, List.map_cons, List.map_nil]); first | done | rfl | (simp only [List.length_drop, List.length_take]; rfl)) ?_; (with_reducible refine (spec_SkipPart.calls t432 t449 t450 t451 t452 _ A54.out).mono ?_); rintro e w' ⟨rfl, ⟨nd, rfl⟩⟩; refine ⟨_, rfl, ?_⟩))
              (try simp only [Act.put, List.setIfInBounds_toArray, List.set_cons_zero, List.set_cons_succ])
              go_cut [206] (fun v206 wc => ∃ (kq : Nat) (x206_54 : Bool), v206 = .bool x206_54 ∧ Aside0 (laws_FnFrames.j4 kq t432 t433 t434 t436 x206_54 = some r) ∧ Aside0 (kq ≤ kj13) ∧ Aside0 (Kd.S k38 38 wc w.heap.size (fun _ => True) v437 t433) ∧ Aside0 (Below w.heap.size w wc))
              case first =>
                have H := HC55.out
                clear HC55
                by_cases c59 : (t436 != t442) = true
                · rw [if_pos c59] at H
                  exact absurd H (by simp)
                · rw [if_neg c59] at H
                  have c59b0 : (t436 != t442) = false := by simpa using c59
                  (try (have c59b1 : decide (t436 = t442) = true := by simpa using c59))
                  (try (have c59b2 : (t436 == t442) = true := by simpa using c59))
                  clear c59
                  (first | rw [c59b0] | (simp only [i64_w, i32_w]; rw [c59b0]) | skip)
                  by_cases c60 : t434 = t440
                  · rw [if_pos c60] at H
                    have c60b0 : (t434 == t440) = true := beq_iff_eq.mpr c60
                    have c60b1 : (t434 != t440) = false := bne_eq_false_iff_eq.mpr c60
                    clear c60
                    by_cases c61 : t435 = t441
                    · rw [if_pos c61] at H
                      have c61b0 : (t435 == t441) = true := beq_iff_eq.mpr c61
                      have c61b1 : (t435 != t441) = false := bne_eq_false_iff_eq.mpr c61
                      clear c61
                      replace H := Option.bind_eq_some_iff.mp H
                      obtain ⟨t453, A620, H⟩ := H
                      replace H : (if t453 = true then (if (t448 != t452) = true then (none) else (if t445 = t449 then (if t446 = t450 then (laws_FnFrames.j4 kj13 t432 t433 t434 t436 (t447.toList != t451.toList)) else (none)) else (none))) else (none)) = some r := H
                      have A62 := Aside0.mk A620
                      clear A620
                      by_cases c63 : t453 = true
                      · subst c63
                        have H1 : (if (t448 != t452) = true then (none) else (if t445 = t449 then (if t446 = t450 then (laws_FnFrames.j4 kj13 t432 t433 t434 t436 (t447.toList != t451.toList)) else (none)) else (none))) = some r := by rw [if_pos rfl] at H; exact H
                        clear H
                        have H := H1
                        clear H1
                        by_cases c64 : (t448 != t452) = true
                        · rw [if_pos c64] at H
                          exact absurd H (by simp)
                        · rw [if_neg c64] at H
                          have c64b0 : (t448 != t452) = false := by simpa using c64
                          (try (have c64b1 : decide (t448 = t452) = true := by simpa using c64))
                          (try (have c64b2 : (t448 == t452) = true := by simpa using c64))
                          clear c64
                          by_cases c65 : t445 = t449
                          · rw [if_pos c65] at H
                            have c65b0 : (t445 == t449) = true := beq_iff_eq.mpr c65
                            have c65b1 : (t445 != t449) = false := bne_eq_false_iff_eq.mpr c65
                            clear c65
                            by_cases c66 : t446 = t450
                            · rw [if_pos c66] at H
                              have c66b0 : (t446 == t450) = true := beq_iff_eq.mpr c66
                              have c66b1 : (t446 != t450) = false := bne_eq_false_iff_eq.mpr c66
                              clear c66
                              as_aux_lemma =>
                                have H' := Aside0.mk H
                                clear H
                                obtain ⟨Ao67, co67, eo67⟩ := Kd.S_slice HO438.out
                                subst eo67
                                obtain ⟨Ao68, co68, eo68⟩ := Kd.S_slice HO444.out
                                subst eo68
                                go_wp2_with (first | (go_at_call 45; (with_reducible refine (laws_sameParts.calls kj13 _ _ t433 _ _ t439 true _ ?side1 ?side2 ?side3 ?side4 A62.out).mono ?_); (case side1 => repeat (first | exact (Kd.S_reads' HO438.out).2.2 | (with_reducible refine Kd.C_alloc ?_ _) | (with_reducible refine Kd.C_drewN ?_ _) | (with_reducible refine Kd.C_drew ?_))); (case side2 => exact (Kd.S_reads' HO438.out).2.1); (case side3 => repeat (first | exact (Kd.S_reads' HO444.out).2.2 | (with_reducible refine Kd.C_alloc ?_ _) | (with_reducible refine Kd.C_drewN ?_ _) | (with_reducible refine Kd.C_drew ?_))); (case side4 => exact (Kd.S_reads' HO444.out).2.1); rintro e w69 ⟨rfl, hb⟩; have n0_ := Aside0.mk (Kd.S_below (by (with_reducible repeat (first | apply Kd.S_alloc | apply Kd.S_drewN | apply Kd.S_drew)); exact HO438.out) hb); have n1_ := Aside0.mk (Kd.S_below (by (with_reducible repeat (first | apply Kd.S_alloc | apply Kd.S_drewN | apply Kd.S_drew)); exact HO444.out) hb); have n2_ := Aside0.mk (below_step (by repeat (first | (with_reducible first | exact HB.out | apply below_alloc | apply pw_below_drewN | apply below_drew1) | exact HB.out)) hb); clear HO438; clear HO444; clear HB; have HO438 := n0_; have HO444 := n1_; have HB := n2_; clear n0_ n1_ n2_; (try clear hb); (try clear hb2); (try clear hk); (try clear hi)))
                                go_meet
                                case rel => exact ⟨_, ((t447.toList != t451.toList)), (by first | rfl | (simp; done) | (simp [*]; done)), H', ⟨by have := HJ6.out; have := HJ13.out; first | omega | exact Nat.le_refl _⟩, ⟨by (with_reducible repeat (first | apply Kd.S_alloc | apply Kd.S_drewN | apply Kd.S_drew)); exact Kd.S_mono HO438.out (fun _ hk => trivial)⟩, ⟨by repeat (first | (with_reducible first | exact HB.out | apply below_alloc | apply pw_below_drewN | apply below_drew1) | exact HB.out)⟩⟩
                            · rw [if_neg c66] at H
                              exact absurd H (by simp)
                          · rw [if_neg c65] at H
                            exact absurd H (by simp)
                      · replace c63 := Bool.eq_false_iff.mpr c63
                        subst c63
                        have H1 : (none) = some r := by rw [if_neg (show ¬ (false = true) by decide)] at H; exact H
                        clear H
                        have H := H1
                        clear H1
                        exact absurd H (by simp)
                    · rw [if_neg c61] at H
                      exact absurd H (by simp)
                  · rw [if_neg c60] at H
                    exact absurd H (by simp)
              case rest =>
                clear HC55
                try clear c1
                try clear c2
                try clear p2
                try clear c3
                try clear c3b0
                try clear c4
                try clear q4
                try clear c5
                try clear c6
                try clear p6
                try clear c12
                try clear c12b0
                try clear c12b1
                try clear c12b2
                try clear c13
                try clear c14
                try clear c15
                try clear c19
                try clear c20
                try clear c20b0
                try clear c20b1
                try clear c21
                try clear c21b0
                try clear c21b1
                try clear c25
                try clear c26
                try clear c26b0
                try clear c28
                try clear c28b0
                try clear c28b1
                try clear c30
                try clear c30b0
                try clear c30b1
                try clear c31
                try clear c31b0
                try clear c31b1
                try clear c33
                try clear c34
                try clear c34b0
                try clear c34b1
                try clear c34b2
                try clear c35
                try clear c35b0
                try clear c35b1
                try clear c36
                try clear c36b0
                try clear c36b1
                try clear c37
                try clear c37b0
                try clear c37b1
                try clear c37b2
                try clear c38
                try clear c39
                try clear c40
                try clear q40
                try clear c43
                try clear c44
                try clear c44b0
                try clear c44b1
                try clear c45
                try clear c45b0
                try clear c45b1
                try clear c47
                try clear c48
                try clear c49
                try clear c59
                try clear c59b0
                try clear c59b1
                try clear c59b2
                try clear c60
                try clear c60b0
                try clear c60b1
                try clear c61
                try clear c61b0
                try clear c61b1
                try clear c63
                try clear c64
                try clear c64b0
                try clear c64b1
                try clear c64b2
                try clear p64
                try clear c65
                try clear c65b0
                try clear c65b1
                try clear c66
                try clear c66b0
                try clear c66b1
                try clear p2
                try clear p6
                try clear q4
                try clear q40
                obtain ⟨kq, x206_54, rfl, HA, HJ54, HO_22, HB⟩ := hcut
                cases kq with
                | zero => exact absurd HA.out (by simp [laws_FnFrames.j4])
                | succ kj54 =>
                  have H := HA.out
                  clear HA
                  simp only [laws_FnFrames.j4] at H
                  by_cases c70 : x206_54 = true
                  · subst c70
                    have H1 : (none) = some r := by rw [if_pos rfl] at H; exact H
                    clear H
                    have H := H1
                    clear H1
                    exact absurd H (by simp)
                  · replace c70 := Bool.eq_false_iff.mpr c70
                    subst c70
                    have H1 : (if t436 = true then (if t434 = 0 then ((impl_FrameText.f kj54 t433).bind fun bt454 => (if bt454.2 = true then (some (bt454.1.toList == t432.toList)) else (none))) else (some true)) else (some true)) = some r := by rw [if_neg (show ¬ (false = true) by decide)] at H; exact H
                    clear H
                    have H := H1
                    clear H1
                    by_cases c71 : t436 = true
                    · subst c71
                      have H1 : (if t434 = 0 then ((impl_FrameText.f kj54 t433).bind fun bt454 => (if bt454.2 = true then (some (bt454.1.toList == t432.toList)) else (none))) else (some true)) = some r := by rw [if_pos rfl] at H; exact H
                      clear H
                      have H := H1
                      clear H1
                      by_cases c72 : t434 = 0
                      · rw [if_pos c72] at H
                        have c72b0 : (t434 == 0) = true := beq_iff_eq.mpr c72
                        have c72b1 : (t434 != 0) = false := bne_eq_false_iff_eq.mpr c72
                        clear c72
                        replace H := Option.bind_eq_some_iff.mp H
                        obtain ⟨⟨t454, t455⟩, A730, H⟩ := H
                        replace H : (if t455 = true then (some (t454.toList == t432.toList)) else (none)) = some r := H
                        have A73 := Aside0.mk A730
                        clear A730
                        by_cases c74 : t455 = true
                        · subst c74
                          have H1 : (some (t454.toList == t432.toList)) = some r := by rw [if_pos rfl] at H; exact H
                          clear H
                          have H := H1
                          clear H1
                          as_aux_lemma =>
                            obtain rfl := Option.some.inj H
                            obtain ⟨Ao75, co75, eo75⟩ := Kd.S_slice HO_22.out
                            subst eo75
                            go_wp2_with (first | ((with_reducible refine gate_callee (f := 38) rfl ?_); refine goesL_ (some 214) rfl rfl Try.func38 (by kernel_rfl) rfl #[.slice Ao75 t433.length co75] rfl (by (try simp only [List.map_toArray, List.map_cons, List.map_nil]); first | done | rfl | (simp only [List.length_drop, List.length_take]; rfl)) ?_; (with_reducible refine (impl_FrameText.calls kj54 _ _ t433 t454 true _ ?side1 ?side2 A73.out).mono ?_); (case side1 => repeat (first | exact (Kd.S_reads' HO_22.out).2.2 | (with_reducible refine Kd.C_alloc ?_ _) | (with_reducible refine Kd.C_drewN ?_ _) | (with_reducible refine Kd.C_drew ?_))); (case side2 => exact (Kd.S_reads' HO_22.out).2.1); rintro e w76 ⟨rfl, hb⟩; refine ⟨_, rfl, ?_⟩; have n0_ := Aside0.mk (Kd.S_below (by (with_reducible repeat (first | apply Kd.S_alloc | apply Kd.S_drewN | apply Kd.S_drew)); exact HO_22.out) hb); have n1_ := Aside0.mk (below_step (by repeat (first | (with_reducible first | exact HB.out | apply below_alloc | apply pw_below_drewN | apply below_drew1) | exact HB.out)) hb); clear HO_22; clear HB; have HO_22 := n0_; have HB := n1_; clear n0_ n1_; (try clear hb); (try clear hb2); (try clear hk); (try clear hi)))
                            go_ret
                            exact ⟨by first | rfl | (simp [errW_none, errW_some] <;> rfl) | (simp [*, errW_none, errW_some] <;> rfl), by repeat (first | (with_reducible first | exact HB.out | apply below_alloc | apply pw_below_drewN | apply below_drew1) | exact HB.out)⟩
                        · replace c74 := Bool.eq_false_iff.mpr c74
                          subst c74
                          have H1 : (none) = some r := by rw [if_neg (show ¬ (false = true) by decide)] at H; exact H
                          clear H
                          have H := H1
                          clear H1
                          exact absurd H (by simp)
                      · rw [if_neg c72] at H
                        have c72b0 : (t434 == 0) = false := beq_eq_false_iff_ne.mpr c72
                        have c72b1 : (t434 != 0) = true := bne_iff_ne.mpr c72
                        as_aux_lemma =>
                          obtain rfl := Option.some.inj H
                          go_wp2
                          go_ret
                          exact ⟨by first | rfl | (simp [errW_none, errW_some] <;> rfl) | (simp [*, errW_none, errW_some] <;> rfl), by repeat (first | (with_reducible first | exact HB.out | apply below_alloc | apply pw_below_drewN | apply below_drew1) | exact HB.out)⟩
                    · replace c71 := Bool.eq_false_iff.mpr c71
                      subst c71
                      have H1 : (some true) = some r := by rw [if_neg (show ¬ (false = true) by decide)] at H; exact H
                      clear H
                      have H := H1
                      clear H1
                      as_aux_lemma =>
                        obtain rfl := Option.some.inj H
                        go_wp2
                        go_ret
                        exact ⟨by first | rfl | (simp [errW_none, errW_some] <;> rfl) | (simp [*, errW_none, errW_some] <;> rfl), by repeat (first | (with_reducible first | exact HB.out | apply below_alloc | apply pw_below_drewN | apply below_drew1) | exact HB.out)⟩

/-- THE ONE PURE STATEMENT of laws_FnFrames: yours. -/
def laws_FnFrames.Pure : Prop := ∀ (l0 : List Int) (l1 : List Int), l0.length ≤ maxLen → l0.length * 1 ≤ 140737488351232 → (∀ x ∈ l0, (Lit.int .u8 x).wf = true) → l1.length ≤ maxLen → l1.length * 1 ≤ 140737488351232 → (∀ x ∈ l1, (Lit.int .u8 x).wf = true) → ∃ k, laws_FnFrames.f k l0 l1 = some true
theorem laws_FnFrames.walk (P : laws_FnFrames.Pure) (a0 : Option Addr) (len0 cap0 : Nat) (z0 : List Int) (a1 : Option Addr) (len1 cap1 : Nat) (z1 : List Int) (w : World) (w0 : (a0 = none ∧ len0 = 0 ∧ cap0 = 0 ∧ z0 = []) ∨ ∃ x, a0 = some x ∧ len0 ≤ cap0 ∧ cap0 ≤ maxLen ∧ z0.length = cap0 ∧ (∀ i, i < z0.length → w.cell? (x.add i) = some (.int .u8 (z0.getD i 0))) ∧ ∀ n ∈ z0, (Lit.int .u8 n).wf = true) (y0 : len0 * 1 ≤ 140737488351232) (w1 : (a1 = none ∧ len1 = 0 ∧ cap1 = 0 ∧ z1 = []) ∨ ∃ x, a1 = some x ∧ len1 ≤ cap1 ∧ cap1 ≤ maxLen ∧ z1.length = cap1 ∧ (∀ i, i < z1.length → w.cell? (x.add i) = some (.int .u8 (z1.getD i 0))) ∧ ∀ n ∈ z1, (Lit.int .u8 n).wf = true) (y1 : len1 * 1 ≤ 140737488351232) :
    Calls Try.prog 12 #[.slice a0 len0 cap0, .slice a1 len1 cap1] w fun e w' => e = .returned (.bool true) ∧ Below w.heap.size w w' := by
  obtain ⟨l0, rfl, hr0, hm0, hw0, hc0⟩ := ReadsInt.ofRowC w0
  obtain ⟨l1, rfl, hr1, hm1, hw1, hc1⟩ := ReadsInt.ofRowC w1
  obtain ⟨k, h⟩ := P l0 l1 hm0 y0 hw0 hm1 y1 hw1
  refine (laws_FnFrames.calls k _ _ l0 _ _ l1 true w (Kd.C_of_reads (d := (0 : Int)) (h1 := fun _ => rfl) hr0) hc0 (Kd.C_of_reads (d := (0 : Int)) (h1 := fun _ => rfl) hr1) hc1 h).mono ?_
  rintro e w' ⟨rfl, hd⟩
  exact ⟨rfl, hd⟩

end Go.Proofs.Ytajfpfmbmkmafaa.PFnFrames
