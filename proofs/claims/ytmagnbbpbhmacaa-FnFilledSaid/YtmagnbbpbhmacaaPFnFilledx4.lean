-- Written by a program of this project (myprint.py, by way of the kit's printer). Not trusted: Lean checks it.
import Derived.Test.YtmagnbbpbhmacaaPFnFilledx0
import Derived.Test.YtmagnbbpbhmacaaPFnFilledx1
import Derived.Test.YtmagnbbpbhmacaaPFnFilledx2
import Derived.Test.YtmagnbbpbhmacaaPFnFilledx3
namespace Go.Proofs.Ytmagnbbpbhmacaa.PFnFilled
open Go.RowKit Go.Proofs.YtmagnbbpbhmacaaW.PrintWords Go.Proofs.YtmagnbbpbhmacaaW.PrintLast Go.Proofs.YtmagnbbpbhmacaaW.PrintMore
attribute [local go_sem] max2_int min2_int max_two min_two max_three min_three max_four min_four   -- for this text's walks alone
set_option linter.unusedVariables false
set_option linter.unusedSimpArgs false

/-! ### laws_FnFilled: function 11 -/
mutual
def laws_FnFilled.j0 : Nat → List Int → ByteArray → Int → ByteArray → Bool → Bool → Option (Bool)
  | 0, _, _, _, _, _, _ => none
  | k + 1, x1, x5, x6, x7, x8, x57 => if x57 = true then (none) else (if x8 = true then ((impl_IsWhole.f k x7).bind fun bt206 => (if bt206.2 = true then (if bt206.1 = true then (if (x7.size : Int) = (x5.size : Int) then (if 0 ≤ x6 then (if x6 ≤ (x7.size : Int) then (if x6 ≤ (x5.size : Int) then (if (x7.extract 0 (x6 : Int).toNat).toList = (x5.extract 0 (x6 : Int).toNat).toList then (if 0 ≤ (wrap64 (x6 + 2)) then (if (wrap64 (x6 + 2)) ≤ (x7.size : Int) then (if (wrap64 (x6 + 2)) ≤ (x5.size : Int) then (laws_FnFilled.j1 k x1 ((x7.extract ((wrap64 (x6 + 2)) : Int).toNat x7.size).toList != (x5.extract ((wrap64 (x6 + 2)) : Int).toNat x5.size).toList)) else (none)) else (none)) else (none)) else (none)) else (none)) else (none)) else (none)) else (none)) else (none)) else (none))) else (laws_FnFilled.j2 k x1))
def laws_FnFilled.j2 : Nat → List Int → Option (Bool)
  | 0, _ => none
  | k + 1, x1 => (spec_DrawMendByte.f k x1).bind fun bt208 => ((impl_MendByte.f k bt208.1 bt208.2).bind fun bt210 => ((spec_MendByte.f k bt208.1 bt208.2).bind fun bt212 => (if (bt210.2 != bt212.2) = true then (none) else (laws_FnFilled.j3 k x1 bt210.1 bt210.2 (bt210.1.toList != bt212.1.toList)))))
def laws_FnFilled.j3 : Nat → List Int → ByteArray → Bool → Bool → Option (Bool)
  | 0, _, _, _, _ => none
  | k + 1, x1, x15, x16, x121 => if x121 = true then (none) else (if x16 = true then ((impl_SumOf.f k x15).bind fun bt214 => (if bt214.2.2 = true then (if bt214.1 = 0 then (laws_FnFilled.j4 k x1) else (none)) else (none))) else (laws_FnFilled.j4 k x1))
def laws_FnFilled.j4 : Nat → List Int → Option (Bool)
  | 0, _ => none
  | k + 1, x1 => (spec_DrawIsWhole.f k x1).bind fun t217 => ((impl_IsWhole.f k t217).bind fun bt218 => ((spec_IsWhole.f k t217).bind fun bt220 => (if (bt218.2 == bt220.2) = true then (some (bt218.1 == bt220.1)) else (none))))
def laws_FnFilled.j1 : Nat → List Int → Bool → Option (Bool)
  | 0, _, _ => none
  | k + 1, x1, x96 => if x96 = true then (none) else (laws_FnFilled.j2 k x1)
end
def laws_FnFilled.f (k : Nat) (l0 : List Int) (l1 : List Int) : Option (Bool) := if (wrap64 ((l0.length : Int) + (l1.length : Int))) > 1048576 then (some true) else ((spec_DrawFillSum.f k l0).bind fun bt200 => ((impl_FillSum.f k bt200.1 bt200.2).bind fun bt202 => ((spec_FillSum.f k bt200.1 bt200.2).bind fun bt204 => (if (bt202.2 != bt204.2) = true then (none) else (laws_FnFilled.j0 k l1 bt200.1 bt200.2 bt202.1 bt202.2 (bt202.1.toList != bt204.1.toList))))))
theorem laws_FnFilled.mono_l : ∀ k, (∀ y0 y1 y2 y3 y4 y5, LeO (laws_FnFilled.j0 k y0 y1 y2 y3 y4 y5) (laws_FnFilled.j0 (k + 1) y0 y1 y2 y3 y4 y5)) ∧ (∀ y0, LeO (laws_FnFilled.j2 k y0) (laws_FnFilled.j2 (k + 1) y0)) ∧ (∀ y0 y1 y2 y3, LeO (laws_FnFilled.j3 k y0 y1 y2 y3) (laws_FnFilled.j3 (k + 1) y0 y1 y2 y3)) ∧ (∀ y0, LeO (laws_FnFilled.j4 k y0) (laws_FnFilled.j4 (k + 1) y0)) ∧ (∀ y0 y1, LeO (laws_FnFilled.j1 k y0 y1) (laws_FnFilled.j1 (k + 1) y0 y1))
  | 0 => ⟨fun _ _ _ _ _ _ r h => by simp [laws_FnFilled.j0] at h, fun _ r h => by simp [laws_FnFilled.j2] at h, fun _ _ _ _ r h => by simp [laws_FnFilled.j3] at h, fun _ r h => by simp [laws_FnFilled.j4] at h, fun _ _ r h => by simp [laws_FnFilled.j1] at h⟩
  | k + 1 => by
    obtain ⟨ih0, ih1, ih2, ih3, ih4⟩ := laws_FnFilled.mono_l k
    refine ⟨?_, ?_, ?_, ?_, ?_⟩
    · intro y0 y1 y2 y3 y4 y5
      unfold laws_FnFilled.j0
      repeat' first
      | (with_reducible exact ih0 _ _ _ _ _ _)
      | (with_reducible exact ih1 _)
      | (with_reducible exact ih2 _ _ _ _)
      | (with_reducible exact ih3 _)
      | (with_reducible exact ih4 _ _)
      | (with_reducible exact impl_FillSum.mono _ _ _)
      | (with_reducible exact impl_IsWhole.mono _ _)
      | (with_reducible exact impl_MendByte.mono _ _ _)
      | (with_reducible exact impl_SumOf.mono _ _)
      | (with_reducible exact spec_DrawFillSum.mono _ _)
      | (with_reducible exact spec_DrawIsWhole.mono _ _)
      | (with_reducible exact spec_DrawMendByte.mono _ _)
      | (with_reducible exact spec_FillSum.mono _ _ _)
      | (with_reducible exact spec_IsWhole.mono _ _)
      | (with_reducible exact spec_MendByte.mono _ _ _)
      | (with_reducible exact LeO.refl _)
      | (with_reducible exact LeO.none _)
      | (with_reducible refine LeO.ite ?_ ?_)
      | (with_reducible refine LeO.bind ?_ (fun _ => ?_))
      | exact ih0 _ _ _ _ _ _
      | exact ih1 _
      | exact ih2 _ _ _ _
      | exact ih3 _
      | exact ih4 _ _
      | exact impl_FillSum.mono _ _ _
      | exact impl_IsWhole.mono _ _
      | exact impl_MendByte.mono _ _ _
      | exact impl_SumOf.mono _ _
      | exact spec_DrawFillSum.mono _ _
      | exact spec_DrawIsWhole.mono _ _
      | exact spec_DrawMendByte.mono _ _
      | exact spec_FillSum.mono _ _ _
      | exact spec_IsWhole.mono _ _
      | exact spec_MendByte.mono _ _ _
      | exact LeO.none _
      | refine LeO.ite ?_ ?_
      | refine LeO.bind ?_ (fun _ => ?_)
    · intro y0
      unfold laws_FnFilled.j2
      repeat' first
      | (with_reducible exact ih0 _ _ _ _ _ _)
      | (with_reducible exact ih1 _)
      | (with_reducible exact ih2 _ _ _ _)
      | (with_reducible exact ih3 _)
      | (with_reducible exact ih4 _ _)
      | (with_reducible exact impl_FillSum.mono _ _ _)
      | (with_reducible exact impl_IsWhole.mono _ _)
      | (with_reducible exact impl_MendByte.mono _ _ _)
      | (with_reducible exact impl_SumOf.mono _ _)
      | (with_reducible exact spec_DrawFillSum.mono _ _)
      | (with_reducible exact spec_DrawIsWhole.mono _ _)
      | (with_reducible exact spec_DrawMendByte.mono _ _)
      | (with_reducible exact spec_FillSum.mono _ _ _)
      | (with_reducible exact spec_IsWhole.mono _ _)
      | (with_reducible exact spec_MendByte.mono _ _ _)
      | (with_reducible exact LeO.refl _)
      | (with_reducible exact LeO.none _)
      | (with_reducible refine LeO.ite ?_ ?_)
      | (with_reducible refine LeO.bind ?_ (fun _ => ?_))
      | exact ih0 _ _ _ _ _ _
      | exact ih1 _
      | exact ih2 _ _ _ _
      | exact ih3 _
      | exact ih4 _ _
      | exact impl_FillSum.mono _ _ _
      | exact impl_IsWhole.mono _ _
      | exact impl_MendByte.mono _ _ _
      | exact impl_SumOf.mono _ _
      | exact spec_DrawFillSum.mono _ _
      | exact spec_DrawIsWhole.mono _ _
      | exact spec_DrawMendByte.mono _ _
      | exact spec_FillSum.mono _ _ _
      | exact spec_IsWhole.mono _ _
      | exact spec_MendByte.mono _ _ _
      | exact LeO.none _
      | refine LeO.ite ?_ ?_
      | refine LeO.bind ?_ (fun _ => ?_)
    · intro y0 y1 y2 y3
      unfold laws_FnFilled.j3
      repeat' first
      | (with_reducible exact ih0 _ _ _ _ _ _)
      | (with_reducible exact ih1 _)
      | (with_reducible exact ih2 _ _ _ _)
      | (with_reducible exact ih3 _)
      | (with_reducible exact ih4 _ _)
      | (with_reducible exact impl_FillSum.mono _ _ _)
      | (with_reducible exact impl_IsWhole.mono _ _)
      | (with_reducible exact impl_MendByte.mono _ _ _)
      | (with_reducible exact impl_SumOf.mono _ _)
      | (with_reducible exact spec_DrawFillSum.mono _ _)
      | (with_reducible exact spec_DrawIsWhole.mono _ _)
      | (with_reducible exact spec_DrawMendByte.mono _ _)
      | (with_reducible exact spec_FillSum.mono _ _ _)
      | (with_reducible exact spec_IsWhole.mono _ _)
      | (with_reducible exact spec_MendByte.mono _ _ _)
      | (with_reducible exact LeO.refl _)
      | (with_reducible exact LeO.none _)
      | (with_reducible refine LeO.ite ?_ ?_)
      | (with_reducible refine LeO.bind ?_ (fun _ => ?_))
      | exact ih0 _ _ _ _ _ _
      | exact ih1 _
      | exact ih2 _ _ _ _
      | exact ih3 _
      | exact ih4 _ _
      | exact impl_FillSum.mono _ _ _
      | exact impl_IsWhole.mono _ _
      | exact impl_MendByte.mono _ _ _
      | exact impl_SumOf.mono _ _
      | exact spec_DrawFillSum.mono _ _
      | exact spec_DrawIsWhole.mono _ _
      | exact spec_DrawMendByte.mono _ _
      | exact spec_FillSum.mono _ _ _
      | exact spec_IsWhole.mono _ _
      | exact spec_MendByte.mono _ _ _
      | exact LeO.none _
      | refine LeO.ite ?_ ?_
      | refine LeO.bind ?_ (fun _ => ?_)
    · intro y0
      unfold laws_FnFilled.j4
      repeat' first
      | (with_reducible exact ih0 _ _ _ _ _ _)
      | (with_reducible exact ih1 _)
      | (with_reducible exact ih2 _ _ _ _)
      | (with_reducible exact ih3 _)
      | (with_reducible exact ih4 _ _)
      | (with_reducible exact impl_FillSum.mono _ _ _)
      | (with_reducible exact impl_IsWhole.mono _ _)
      | (with_reducible exact impl_MendByte.mono _ _ _)
      | (with_reducible exact impl_SumOf.mono _ _)
      | (with_reducible exact spec_DrawFillSum.mono _ _)
      | (with_reducible exact spec_DrawIsWhole.mono _ _)
      | (with_reducible exact spec_DrawMendByte.mono _ _)
      | (with_reducible exact spec_FillSum.mono _ _ _)
      | (with_reducible exact spec_IsWhole.mono _ _)
      | (with_reducible exact spec_MendByte.mono _ _ _)
      | (with_reducible exact LeO.refl _)
      | (with_reducible exact LeO.none _)
      | (with_reducible refine LeO.ite ?_ ?_)
      | (with_reducible refine LeO.bind ?_ (fun _ => ?_))
      | exact ih0 _ _ _ _ _ _
      | exact ih1 _
      | exact ih2 _ _ _ _
      | exact ih3 _
      | exact ih4 _ _
      | exact impl_FillSum.mono _ _ _
      | exact impl_IsWhole.mono _ _
      | exact impl_MendByte.mono _ _ _
      | exact impl_SumOf.mono _ _
      | exact spec_DrawFillSum.mono _ _
      | exact spec_DrawIsWhole.mono _ _
      | exact spec_DrawMendByte.mono _ _
      | exact spec_FillSum.mono _ _ _
      | exact spec_IsWhole.mono _ _
      | exact spec_MendByte.mono _ _ _
      | exact LeO.none _
      | refine LeO.ite ?_ ?_
      | refine LeO.bind ?_ (fun _ => ?_)
    · intro y0 y1
      unfold laws_FnFilled.j1
      repeat' first
      | (with_reducible exact ih0 _ _ _ _ _ _)
      | (with_reducible exact ih1 _)
      | (with_reducible exact ih2 _ _ _ _)
      | (with_reducible exact ih3 _)
      | (with_reducible exact ih4 _ _)
      | (with_reducible exact impl_FillSum.mono _ _ _)
      | (with_reducible exact impl_IsWhole.mono _ _)
      | (with_reducible exact impl_MendByte.mono _ _ _)
      | (with_reducible exact impl_SumOf.mono _ _)
      | (with_reducible exact spec_DrawFillSum.mono _ _)
      | (with_reducible exact spec_DrawIsWhole.mono _ _)
      | (with_reducible exact spec_DrawMendByte.mono _ _)
      | (with_reducible exact spec_FillSum.mono _ _ _)
      | (with_reducible exact spec_IsWhole.mono _ _)
      | (with_reducible exact spec_MendByte.mono _ _ _)
      | (with_reducible exact LeO.refl _)
      | (with_reducible exact LeO.none _)
      | (with_reducible refine LeO.ite ?_ ?_)
      | (with_reducible refine LeO.bind ?_ (fun _ => ?_))
      | exact ih0 _ _ _ _ _ _
      | exact ih1 _
      | exact ih2 _ _ _ _
      | exact ih3 _
      | exact ih4 _ _
      | exact impl_FillSum.mono _ _ _
      | exact impl_IsWhole.mono _ _
      | exact impl_MendByte.mono _ _ _
      | exact impl_SumOf.mono _ _
      | exact spec_DrawFillSum.mono _ _
      | exact spec_DrawIsWhole.mono _ _
      | exact spec_DrawMendByte.mono _ _
      | exact spec_FillSum.mono _ _ _
      | exact spec_IsWhole.mono _ _
      | exact spec_MendByte.mono _ _ _
      | exact LeO.none _
      | refine LeO.ite ?_ ?_
      | refine LeO.bind ?_ (fun _ => ?_)
theorem laws_FnFilled.mono : ∀ a0 a1 k, LeO (laws_FnFilled.f k a0 a1) (laws_FnFilled.f (k + 1) a0 a1) := by
  intro a0 a1 k
  obtain ⟨ih0, ih1, ih2, ih3, ih4⟩ := laws_FnFilled.mono_l k
  unfold laws_FnFilled.f
  repeat' first
      | (with_reducible exact ih0 _ _ _ _ _ _)
      | (with_reducible exact ih1 _)
      | (with_reducible exact ih2 _ _ _ _)
      | (with_reducible exact ih3 _)
      | (with_reducible exact ih4 _ _)
      | (with_reducible exact impl_FillSum.mono _ _ _)
      | (with_reducible exact impl_IsWhole.mono _ _)
      | (with_reducible exact impl_MendByte.mono _ _ _)
      | (with_reducible exact impl_SumOf.mono _ _)
      | (with_reducible exact spec_DrawFillSum.mono _ _)
      | (with_reducible exact spec_DrawIsWhole.mono _ _)
      | (with_reducible exact spec_DrawMendByte.mono _ _)
      | (with_reducible exact spec_FillSum.mono _ _ _)
      | (with_reducible exact spec_IsWhole.mono _ _)
      | (with_reducible exact spec_MendByte.mono _ _ _)
      | (with_reducible exact LeO.refl _)
      | (with_reducible exact LeO.none _)
      | (with_reducible refine LeO.ite ?_ ?_)
      | (with_reducible refine LeO.bind ?_ (fun _ => ?_))
      | exact ih0 _ _ _ _ _ _
      | exact ih1 _
      | exact ih2 _ _ _ _
      | exact ih3 _
      | exact ih4 _ _
      | exact impl_FillSum.mono _ _ _
      | exact impl_IsWhole.mono _ _
      | exact impl_MendByte.mono _ _ _
      | exact impl_SumOf.mono _ _
      | exact spec_DrawFillSum.mono _ _
      | exact spec_DrawIsWhole.mono _ _
      | exact spec_DrawMendByte.mono _ _
      | exact spec_FillSum.mono _ _ _
      | exact spec_IsWhole.mono _ _
      | exact spec_MendByte.mono _ _ _
      | exact LeO.none _
      | refine LeO.ite ?_ ?_
      | refine LeO.bind ?_ (fun _ => ?_)
set_option maxHeartbeats 8000000 in
set_option maxRecDepth 100000 in
theorem laws_FnFilled.calls (k : Nat) (A0 : Option Addr) (c0 : Nat) (l0 : List Int) (A1 : Option Addr) (c1 : Nat) (l1 : List Int) (r : Bool) (w : World) (hr0 : Kd.C (Kd.int .u8) w A0 l0.length l0) (hc0 : l0.length ≤ c0) (hr1 : Kd.C (Kd.int .u8) w A1 l1.length l1) (hc1 : l1.length ≤ c1) (h : laws_FnFilled.f k l0 l1 = some r) :
    Calls Try.prog 11 #[.slice A0 l0.length c0, .slice A1 l1.length c1] w fun e w' => e = .returned (.bool r) ∧ Below w.heap.size w w' := by
  have HR0 := Aside0.mk hr0
  have HC0 := Aside0.mk hc0
  clear hr0 hc0
  have HR1 := Aside0.mk hr1
  have HC1 := Aside0.mk hc1
  clear hr1 hc1
  have HB := Aside0.mk (Below.refl w.heap.size w)
  have H : (if (wrap64 ((l0.length : Int) + (l1.length : Int))) > 1048576 then (some true) else ((spec_DrawFillSum.f k l0).bind fun bt200 => ((impl_FillSum.f k bt200.1 bt200.2).bind fun bt202 => ((spec_FillSum.f k bt200.1 bt200.2).bind fun bt204 => (if (bt202.2 != bt204.2) = true then (none) else (laws_FnFilled.j0 k l1 bt200.1 bt200.2 bt202.1 bt202.2 (bt202.1.toList != bt204.1.toList))))))) = some r := h
  clear h
  by_cases c3 : (wrap64 ((l0.length : Int) + (l1.length : Int))) > 1048576
  · rw [if_pos c3] at H
    have c3b0 : decide (1048576 < (wrap64 ((l0.length : Int) + (l1.length : Int)))) = true := decide_eq_true c3
    clear c3
    obtain rfl := Option.some.inj H
    go_enter Try.func11, Try.ntmps11
    go_wp2
    repeat (go_quiet (fail); try go_wp2)
    go_ret
    exact ⟨by first | rfl | (simp [errW_none, errW_some] <;> rfl) | (simp [*, errW_none, errW_some] <;> rfl), by repeat (first | (with_reducible first | exact HB.out | apply below_alloc | apply pw_below_drewN | apply below_drew1) | exact HB.out)⟩
  · rw [if_neg c3] at H
    have c3b0 : decide (1048576 < (wrap64 ((l0.length : Int) + (l1.length : Int)))) = false := decide_eq_false c3
    clear c3
    replace H := Option.bind_eq_some_iff.mp H
    obtain ⟨⟨t200, t201⟩, A40, H⟩ := H
    replace H : ((impl_FillSum.f k t200 t201).bind fun bt202 => ((spec_FillSum.f k t200 t201).bind fun bt204 => (if (bt202.2 != bt204.2) = true then (none) else (laws_FnFilled.j0 k l1 t200 t201 bt202.1 bt202.2 (bt202.1.toList != bt204.1.toList))))) = some r := H
    have A4 := Aside0.mk A40
    clear A40
    replace H := Option.bind_eq_some_iff.mp H
    obtain ⟨⟨t202, t203⟩, A50, H⟩ := H
    replace H : ((spec_FillSum.f k t200 t201).bind fun bt204 => (if (t203 != bt204.2) = true then (none) else (laws_FnFilled.j0 k l1 t200 t201 t202 t203 (t202.toList != bt204.1.toList)))) = some r := H
    have A5 := Aside0.mk A50
    clear A50
    replace H := Option.bind_eq_some_iff.mp H
    obtain ⟨⟨t204, t205⟩, A60, H⟩ := H
    replace H : (if (t203 != t205) = true then (none) else (laws_FnFilled.j0 k l1 t200 t201 t202 t203 (t202.toList != t204.toList))) = some r := H
    have A6 := Aside0.mk A60
    clear A60
    have HC7 := Aside0.mk H
    clear H
    go_enter Try.func11, Try.ntmps11
    go_upto_region 6 with (first | (go_at_call 27; (with_reducible refine (spec_DrawFillSum.calls k _ _ l0 t200 t201 _ ?side1 ?side2 A4.out).mono ?_); (case side1 => repeat (first | exact HR0.out | (with_reducible refine Kd.C_alloc ?_ _) | (with_reducible refine Kd.C_drewN ?_ _) | (with_reducible refine Kd.C_drew ?_))); (case side2 => exact HC0.out); rintro e w8 ⟨rfl, hb⟩; have n0_ := Aside0.mk (below_step (by repeat (first | (with_reducible first | exact HB.out | apply below_alloc | apply pw_below_drewN | apply below_drew1) | exact HB.out)) hb); clear HB; have HB := n0_; clear n0_; (try clear hb); (try clear hb2); (try clear hk); (try clear hi)) | (go_at_call 26; (with_reducible refine (impl_FillSum.calls k t200 t201 t202 t203 _ A5.out).mono ?_); rintro e w9 ⟨rfl, hb⟩; have n0_ := Aside0.mk (below_step (by repeat (first | (with_reducible first | exact HB.out | apply below_alloc | apply pw_below_drewN | apply below_drew1) | exact HB.out)) hb); clear HB; have HB := n0_; clear n0_; (try clear hb); (try clear hb2); (try clear hk); (try clear hi)) | (go_at_call 25; (with_reducible refine (spec_FillSum.calls k t200 t201 t204 t205 _ A6.out).mono ?_); rintro e w10 ⟨rfl, hb⟩; have n0_ := Aside0.mk (below_step (by repeat (first | (with_reducible first | exact HB.out | apply below_alloc | apply pw_below_drewN | apply below_drew1) | exact HB.out)) hb); clear HB; have HB := n0_; clear n0_; (try clear hb); (try clear hb2); (try clear hk); (try clear hi)))
    repeat (go_quiet (first | (go_at_call 27; (with_reducible refine (spec_DrawFillSum.calls k _ _ l0 t200 t201 _ ?side1 ?side2 A4.out).mono ?_); (case side1 => repeat (first | exact HR0.out | (with_reducible refine Kd.C_alloc ?_ _) | (with_reducible refine Kd.C_drewN ?_ _) | (with_reducible refine Kd.C_drew ?_))); (case side2 => exact HC0.out); rintro e w8 ⟨rfl, hb⟩; clear A4; have n0_ := Aside0.mk (below_step (by repeat (first | (with_reducible first | exact HB.out | apply below_alloc | apply pw_below_drewN | apply below_drew1) | exact HB.out)) hb); clear HB; have HB := n0_; clear n0_; (try clear hb); (try clear hb2); (try clear hk); (try clear hi)) | (go_at_call 26; (with_reducible refine (impl_FillSum.calls k t200 t201 t202 t203 _ A5.out).mono ?_); rintro e w9 ⟨rfl, hb⟩; clear A5; have n0_ := Aside0.mk (below_step (by repeat (first | (with_reducible first | exact HB.out | apply below_alloc | apply pw_below_drewN | apply below_drew1) | exact HB.out)) hb); clear HB; have HB := n0_; clear n0_; (try clear hb); (try clear hb2); (try clear hk); (try clear hi)) | (go_at_call 25; (with_reducible refine (spec_FillSum.calls k t200 t201 t204 t205 _ A6.out).mono ?_); rintro e w10 ⟨rfl, hb⟩; clear A6; have n0_ := Aside0.mk (below_step (by repeat (first | (with_reducible first | exact HB.out | apply below_alloc | apply pw_below_drewN | apply below_drew1) | exact HB.out)) hb); clear HB; have HB := n0_; clear n0_; (try clear hb); (try clear hb2); (try clear hk); (try clear hi))); go_upto_region 6 with (first | (go_at_call 27; (with_reducible refine (spec_DrawFillSum.calls k _ _ l0 t200 t201 _ ?side1 ?side2 A4.out).mono ?_); (case side1 => repeat (first | exact HR0.out | (with_reducible refine Kd.C_alloc ?_ _) | (with_reducible refine Kd.C_drewN ?_ _) | (with_reducible refine Kd.C_drew ?_))); (case side2 => exact HC0.out); rintro e w8 ⟨rfl, hb⟩; clear A4; have n0_ := Aside0.mk (below_step (by repeat (first | (with_reducible first | exact HB.out | apply below_alloc | apply pw_below_drewN | apply below_drew1) | exact HB.out)) hb); clear HB; have HB := n0_; clear n0_; (try clear hb); (try clear hb2); (try clear hk); (try clear hi)) | (go_at_call 26; (with_reducible refine (impl_FillSum.calls k t200 t201 t202 t203 _ A5.out).mono ?_); rintro e w9 ⟨rfl, hb⟩; clear A5; have n0_ := Aside0.mk (below_step (by repeat (first | (with_reducible first | exact HB.out | apply below_alloc | apply pw_below_drewN | apply below_drew1) | exact HB.out)) hb); clear HB; have HB := n0_; clear n0_; (try clear hb); (try clear hb2); (try clear hk); (try clear hi)) | (go_at_call 25; (with_reducible refine (spec_FillSum.calls k t200 t201 t204 t205 _ A6.out).mono ?_); rintro e w10 ⟨rfl, hb⟩; clear A6; have n0_ := Aside0.mk (below_step (by repeat (first | (with_reducible first | exact HB.out | apply below_alloc | apply pw_below_drewN | apply below_drew1) | exact HB.out)) hb); clear HB; have HB := n0_; clear n0_; (try clear hb); (try clear hb2); (try clear hk); (try clear hi))))
    (try simp only [Act.put, List.setIfInBounds_toArray, List.set_cons_zero, List.set_cons_succ])
    go_cut [57] (fun v57 wc => ∃ (kq : Nat) (x57_6 : Bool), v57 = .bool x57_6 ∧ Aside0 (laws_FnFilled.j0 kq l1 t200 t201 t202 t203 x57_6 = some r) ∧ Aside0 (kq ≤ k) ∧ Aside0 (Below w.heap.size w wc))
    case first =>
      have H := HC7.out
      clear HC7
      by_cases c11 : (t203 != t205) = true
      · rw [if_pos c11] at H
        exact absurd H (by simp)
      · rw [if_neg c11] at H
        have c11b0 : (t203 != t205) = false := by simpa using c11
        (try (have c11b1 : decide (t203 = t205) = true := by simpa using c11))
        (try (have c11b2 : (t203 == t205) = true := by simpa using c11))
        clear c11
        (first | rw [c11b0] | (simp only [i64_w, i32_w]; rw [c11b0]) | skip)
        have H' := Aside0.mk H
        clear H
        go_wp2
        repeat (go_quiet (fail); try go_wp2)
        go_meet
        case rel => exact ⟨_, ((t202.toList != t204.toList)), (by first | rfl | (simp; done) | (simp [*]; done)), H', ⟨by first | omega | exact Nat.le_refl _⟩, ⟨by repeat (first | (with_reducible first | exact HB.out | apply below_alloc | apply pw_below_drewN | apply below_drew1) | exact HB.out)⟩⟩
    case rest =>
      clear HC7
      try clear c1
      try clear p2
      try clear c3
      try clear c3b0
      try clear p6
      try clear c11
      try clear c11b0
      try clear c11b1
      try clear c11b2
      obtain ⟨kq, x57_6, rfl, HA, HJ6, HB⟩ := hcut
      cases kq with
      | zero => exact absurd HA.out (by simp [laws_FnFilled.j0])
      | succ kj6 =>
        have H := HA.out
        clear HA
        simp only [laws_FnFilled.j0] at H
        by_cases c12 : x57_6 = true
        · subst c12
          have H1 : (none) = some r := by rw [if_pos rfl] at H; exact H
          clear H
          have H := H1
          clear H1
          exact absurd H (by simp)
        · replace c12 := Bool.eq_false_iff.mpr c12
          subst c12
          have H1 : (if t203 = true then ((impl_IsWhole.f kj6 t202).bind fun bt206 => (if bt206.2 = true then (if bt206.1 = true then (if (t202.size : Int) = (t200.size : Int) then (if 0 ≤ t201 then (if t201 ≤ (t202.size : Int) then (if t201 ≤ (t200.size : Int) then (if (t202.extract 0 (t201 : Int).toNat).toList = (t200.extract 0 (t201 : Int).toNat).toList then (if 0 ≤ (wrap64 (t201 + 2)) then (if (wrap64 (t201 + 2)) ≤ (t202.size : Int) then (if (wrap64 (t201 + 2)) ≤ (t200.size : Int) then (laws_FnFilled.j1 kj6 l1 ((t202.extract ((wrap64 (t201 + 2)) : Int).toNat t202.size).toList != (t200.extract ((wrap64 (t201 + 2)) : Int).toNat t200.size).toList)) else (none)) else (none)) else (none)) else (none)) else (none)) else (none)) else (none)) else (none)) else (none)) else (none))) else (laws_FnFilled.j2 kj6 l1)) = some r := by rw [if_neg (show ¬ (false = true) by decide)] at H; exact H
          clear H
          have H := H1
          clear H1
          have HC13 := Aside0.mk H
          clear H
          go_upto_if 58 with (fail)
          repeat (go_quiet (fail); go_upto_if 58 with (fail))
          go_cut [] (fun wc => ∃ (kq : Nat), Aside0 (laws_FnFilled.j2 kq l1 = some r) ∧ Aside0 (kq ≤ kj6) ∧ Aside0 (Below w.heap.size w wc))
          case first =>
            have H := HC13.out
            clear HC13
            by_cases c14 : t203 = true
            · subst c14
              have H1 : ((impl_IsWhole.f kj6 t202).bind fun bt206 => (if bt206.2 = true then (if bt206.1 = true then (if (t202.size : Int) = (t200.size : Int) then (if 0 ≤ t201 then (if t201 ≤ (t202.size : Int) then (if t201 ≤ (t200.size : Int) then (if (t202.extract 0 (t201 : Int).toNat).toList = (t200.extract 0 (t201 : Int).toNat).toList then (if 0 ≤ (wrap64 (t201 + 2)) then (if (wrap64 (t201 + 2)) ≤ (t202.size : Int) then (if (wrap64 (t201 + 2)) ≤ (t200.size : Int) then (laws_FnFilled.j1 kj6 l1 ((t202.extract ((wrap64 (t201 + 2)) : Int).toNat t202.size).toList != (t200.extract ((wrap64 (t201 + 2)) : Int).toNat t200.size).toList)) else (none)) else (none)) else (none)) else (none)) else (none)) else (none)) else (none)) else (none)) else (none)) else (none))) = some r := by rw [if_pos rfl] at H; exact H
              clear H
              have H := H1
              clear H1
              replace H := Option.bind_eq_some_iff.mp H
              obtain ⟨⟨t206, t207⟩, A150, H⟩ := H
              replace H : (if t207 = true then (if t206 = true then (if (t202.size : Int) = (t200.size : Int) then (if 0 ≤ t201 then (if t201 ≤ (t202.size : Int) then (if t201 ≤ (t200.size : Int) then (if (t202.extract 0 (t201 : Int).toNat).toList = (t200.extract 0 (t201 : Int).toNat).toList then (if 0 ≤ (wrap64 (t201 + 2)) then (if (wrap64 (t201 + 2)) ≤ (t202.size : Int) then (if (wrap64 (t201 + 2)) ≤ (t200.size : Int) then (laws_FnFilled.j1 kj6 l1 ((t202.extract ((wrap64 (t201 + 2)) : Int).toNat t202.size).toList != (t200.extract ((wrap64 (t201 + 2)) : Int).toNat t200.size).toList)) else (none)) else (none)) else (none)) else (none)) else (none)) else (none)) else (none)) else (none)) else (none)) else (none)) = some r := H
              have A15 := Aside0.mk A150
              clear A150
              have HC16 := Aside0.mk H
              clear H
              go_upto_region 10 with (first | (go_at_call 22; (with_reducible refine (impl_IsWhole.calls kj6 t202 t206 t207 _ A15.out).mono ?_); rintro e w' ⟨rfl, ⟨nd, rfl⟩⟩; (try first | exact ⟨rfl, _, World.drewN_drewN _ _ _⟩ | exact ⟨rfl, _, Eq.trans (World.drewN_drewN _ _ _) (congrArg (World.drewN _) (Nat.add_assoc _ _ _))⟩)))
              repeat (go_quiet (first | (go_at_call 22; (with_reducible refine (impl_IsWhole.calls kj6 t202 t206 t207 _ A15.out).mono ?_); rintro e w' ⟨rfl, ⟨nd, rfl⟩⟩; (try first | exact ⟨rfl, _, World.drewN_drewN _ _ _⟩ | exact ⟨rfl, _, Eq.trans (World.drewN_drewN _ _ _) (congrArg (World.drewN _) (Nat.add_assoc _ _ _))⟩))); go_upto_region 10 with (first | (go_at_call 22; (with_reducible refine (impl_IsWhole.calls kj6 t202 t206 t207 _ A15.out).mono ?_); rintro e w' ⟨rfl, ⟨nd, rfl⟩⟩; (try first | exact ⟨rfl, _, World.drewN_drewN _ _ _⟩ | exact ⟨rfl, _, Eq.trans (World.drewN_drewN _ _ _) (congrArg (World.drewN _) (Nat.add_assoc _ _ _))⟩))))
              (try simp only [Act.put, List.setIfInBounds_toArray, List.set_cons_zero, List.set_cons_succ])
              go_cut [96] (fun v96 wc => ∃ (kq : Nat) (x96_15 : Bool), v96 = .bool x96_15 ∧ Aside0 (laws_FnFilled.j1 kq l1 x96_15 = some r) ∧ Aside0 (kq ≤ kj6) ∧ Aside0 (Below w.heap.size w wc))
              case first =>
                have H := HC16.out
                clear HC16
                by_cases c17 : t207 = true
                · subst c17
                  have H1 : (if t206 = true then (if (t202.size : Int) = (t200.size : Int) then (if 0 ≤ t201 then (if t201 ≤ (t202.size : Int) then (if t201 ≤ (t200.size : Int) then (if (t202.extract 0 (t201 : Int).toNat).toList = (t200.extract 0 (t201 : Int).toNat).toList then (if 0 ≤ (wrap64 (t201 + 2)) then (if (wrap64 (t201 + 2)) ≤ (t202.size : Int) then (if (wrap64 (t201 + 2)) ≤ (t200.size : Int) then (laws_FnFilled.j1 kj6 l1 ((t202.extract ((wrap64 (t201 + 2)) : Int).toNat t202.size).toList != (t200.extract ((wrap64 (t201 + 2)) : Int).toNat t200.size).toList)) else (none)) else (none)) else (none)) else (none)) else (none)) else (none)) else (none)) else (none)) else (none)) = some r := by rw [if_pos rfl] at H; exact H
                  clear H
                  have H := H1
                  clear H1
                  by_cases c18 : t206 = true
                  · subst c18
                    have H1 : (if (t202.size : Int) = (t200.size : Int) then (if 0 ≤ t201 then (if t201 ≤ (t202.size : Int) then (if t201 ≤ (t200.size : Int) then (if (t202.extract 0 (t201 : Int).toNat).toList = (t200.extract 0 (t201 : Int).toNat).toList then (if 0 ≤ (wrap64 (t201 + 2)) then (if (wrap64 (t201 + 2)) ≤ (t202.size : Int) then (if (wrap64 (t201 + 2)) ≤ (t200.size : Int) then (laws_FnFilled.j1 kj6 l1 ((t202.extract ((wrap64 (t201 + 2)) : Int).toNat t202.size).toList != (t200.extract ((wrap64 (t201 + 2)) : Int).toNat t200.size).toList)) else (none)) else (none)) else (none)) else (none)) else (none)) else (none)) else (none)) else (none)) = some r := by rw [if_pos rfl] at H; exact H
                    clear H
                    have H := H1
                    clear H1
                    by_cases c19 : (t202.size : Int) = (t200.size : Int)
                    · rw [if_pos c19] at H
                      have c19b0 : ((t202.size : Int) == (t200.size : Int)) = true := beq_iff_eq.mpr c19
                      have c19b1 : ((t202.size : Int) != (t200.size : Int)) = false := bne_eq_false_iff_eq.mpr c19
                      have c19b2 : (t202.size == t200.size) = true := by first | simpa using c19 | (simp at c19 ⊢; omega)
                      clear c19
                      (first | rw [c19b0] | (simp only [i64_w, i32_w]; rw [c19b0]) | skip)
                      by_cases c20 : 0 ≤ t201
                      · rw [if_pos c20] at H
                        have c20b0 := eq_true c20
                        have c20b1 : decide (0 ≤ t201) = true := decide_eq_true c20
                        clear c20
                        by_cases c21 : t201 ≤ (t202.size : Int)
                        · rw [if_pos c21] at H
                          have c21b0 := eq_true c21
                          have c21b1 : decide (t201 ≤ (t202.size : Int)) = true := decide_eq_true c21
                          clear c21
                          have c22b0 := eq_true (of_decide_eq_true (by first | (with_reducible assumption) | assumption) : 0 ≤ t201)
                          by_cases c23 : t201 ≤ (t200.size : Int)
                          · rw [if_pos c23] at H
                            have c23b0 := eq_true c23
                            have c23b1 : decide (t201 ≤ (t200.size : Int)) = true := decide_eq_true c23
                            clear c23
                            by_cases c24 : (t202.extract 0 (t201 : Int).toNat).toList = (t200.extract 0 (t201 : Int).toNat).toList
                            · rw [if_pos c24] at H
                              have c24b0 : ((t202.extract 0 (t201 : Int).toNat).toList == (t200.extract 0 (t201 : Int).toNat).toList) = true := beq_iff_eq.mpr c24
                              have c24b1 : ((t202.extract 0 (t201 : Int).toNat).toList != (t200.extract 0 (t201 : Int).toNat).toList) = false := bne_eq_false_iff_eq.mpr c24
                              clear c24
                              obtain ⟨ji25, hji25⟩ : ∃ j_ : Int, (wrap64 (t201 + 2)) = j_ := ⟨_, rfl⟩
                              replace H : (if 0 ≤ (ji25) then (if (ji25) ≤ (t202.size : Int) then (if (ji25) ≤ (t200.size : Int) then (laws_FnFilled.j1 kj6 l1 ((t202.extract ((ji25) : Int).toNat t202.size).toList != (t200.extract ((ji25) : Int).toNat t200.size).toList)) else (none)) else (none)) else (none)) = some r := by first | (rw [hji25] at H; exact H) | (simp only [hji25] at H ⊢; exact H)
                              have hji25w : (IntKind.i64.wrap (t201 + 2)) = ji25 := (i64_w _).trans hji25
                              by_cases c26 : 0 ≤ (ji25)
                              · rw [if_pos c26] at H
                                have c26b0 := eq_true c26
                                have c26b1 : decide (0 ≤ (ji25)) = true := decide_eq_true c26
                                clear c26
                                by_cases c27 : (ji25) ≤ (t202.size : Int)
                                · rw [if_pos c27] at H
                                  have c27b0 := eq_true c27
                                  have c27b1 : decide ((ji25) ≤ (t202.size : Int)) = true := decide_eq_true c27
                                  clear c27
                                  have c28b0 := eq_true (of_decide_eq_true (by first | (with_reducible assumption) | assumption) : 0 ≤ (ji25))
                                  by_cases c29 : (ji25) ≤ (t200.size : Int)
                                  · rw [if_pos c29] at H
                                    have c29b0 := eq_true c29
                                    have c29b1 : decide ((ji25) ≤ (t200.size : Int)) = true := decide_eq_true c29
                                    clear c29
                                    have H' := Aside0.mk H
                                    clear H
                                    go_wp2
                                    repeat (go_quiet (fail); try go_wp2)
                                    go_meet
                                    case rel => exact ⟨_, (((t202.extract ((ji25) : Int).toNat t202.size).toList != (t200.extract ((ji25) : Int).toNat t200.size).toList)), (by first | rfl | (simp; done) | (simp only [← hji25] <;> (first | rfl | simp)) | (simp [*]; done)), H', ⟨by have := HJ6.out; first | omega | exact Nat.le_refl _⟩, ⟨by repeat (first | (with_reducible first | exact HB.out | apply below_alloc | apply pw_below_drewN | apply below_drew1) | exact HB.out)⟩⟩
                                  · rw [if_neg c29] at H
                                    exact absurd H (by simp)
                                · rw [if_neg c27] at H
                                  exact absurd H (by simp)
                              · rw [if_neg c26] at H
                                exact absurd H (by simp)
                            · rw [if_neg c24] at H
                              exact absurd H (by simp)
                          · rw [if_neg c23] at H
                            exact absurd H (by simp)
                        · rw [if_neg c21] at H
                          exact absurd H (by simp)
                      · rw [if_neg c20] at H
                        exact absurd H (by simp)
                    · rw [if_neg c19] at H
                      exact absurd H (by simp)
                  · replace c18 := Bool.eq_false_iff.mpr c18
                    subst c18
                    have H1 : (none) = some r := by rw [if_neg (show ¬ (false = true) by decide)] at H; exact H
                    clear H
                    have H := H1
                    clear H1
                    exact absurd H (by simp)
                · replace c17 := Bool.eq_false_iff.mpr c17
                  subst c17
                  have H1 : (none) = some r := by rw [if_neg (show ¬ (false = true) by decide)] at H; exact H
                  clear H
                  have H := H1
                  clear H1
                  exact absurd H (by simp)
              case rest =>
                clear HC16
                try clear c1
                try clear c2
                try clear p2
                try clear c3
                try clear c3b0
                try clear p6
                try clear c11
                try clear c11b0
                try clear c11b1
                try clear c11b2
                try clear c12
                try clear c14
                try clear c17
                try clear c18
                try clear c19
                try clear c19b0
                try clear c19b1
                try clear c19b2
                try clear c20
                try clear c20b0
                try clear c20b1
                try clear c21
                try clear c21b0
                try clear c21b1
                try clear c22
                try clear c22b0
                try clear c23
                try clear c23b0
                try clear c23b1
                try clear c24
                try clear c24b0
                try clear c24b1
                try clear c26
                try clear c26b0
                try clear c26b1
                try clear c27
                try clear c27b0
                try clear c27b1
                try clear c28
                try clear c28b0
                try clear c29
                try clear c29b0
                try clear c29b1
                try clear p2
                try clear p6
                obtain ⟨kq, x96_15, rfl, HA, HJ15, HB⟩ := hcut
                cases kq with
                | zero => exact absurd HA.out (by simp [laws_FnFilled.j1])
                | succ kj15 =>
                  have H := HA.out
                  clear HA
                  simp only [laws_FnFilled.j1] at H
                  by_cases c30 : x96_15 = true
                  · subst c30
                    have H1 : (none) = some r := by rw [if_pos rfl] at H; exact H
                    clear H
                    have H := H1
                    clear H1
                    exact absurd H (by simp)
                  · replace c30 := Bool.eq_false_iff.mpr c30
                    subst c30
                    have H1 : (laws_FnFilled.j2 kj15 l1) = some r := by rw [if_neg (show ¬ (false = true) by decide)] at H; exact H
                    clear H
                    have H := H1
                    clear H1
                    have H' := Aside0.mk H
                    clear H
                    go_wp2
                    repeat (go_quiet (fail); try go_wp2)
                    go_meet
                    case rel => exact ⟨_, H', ⟨by have := HJ6.out; have := HJ15.out; first | omega | exact Nat.le_refl _⟩, ⟨by repeat (first | (with_reducible first | exact HB.out | apply below_alloc | apply pw_below_drewN | apply below_drew1) | exact HB.out)⟩⟩
            · replace c14 := Bool.eq_false_iff.mpr c14
              subst c14
              have H1 : (laws_FnFilled.j2 kj6 l1) = some r := by rw [if_neg (show ¬ (false = true) by decide)] at H; exact H
              clear H
              have H := H1
              clear H1
              have H' := Aside0.mk H
              clear H
              go_wp2
              repeat (go_quiet (fail); try go_wp2)
              go_meet
              case rel => exact ⟨_, H', ⟨by have := HJ6.out; first | omega | exact Nat.le_refl _⟩, ⟨by repeat (first | (with_reducible first | exact HB.out | apply below_alloc | apply pw_below_drewN | apply below_drew1) | exact HB.out)⟩⟩
          case rest =>
            clear HC13
            try clear c1
            try clear c2
            try clear p2
            try clear c3
            try clear c3b0
            try clear p6
            try clear c11
            try clear c11b0
            try clear c11b1
            try clear c11b2
            try clear c12
            try clear c14
            try clear c17
            try clear c18
            try clear c19
            try clear c19b0
            try clear c19b1
            try clear c19b2
            try clear c20
            try clear c20b0
            try clear c20b1
            try clear c21
            try clear c21b0
            try clear c21b1
            try clear c22
            try clear c22b0
            try clear c23
            try clear c23b0
            try clear c23b1
            try clear c24
            try clear c24b0
            try clear c24b1
            try clear c26
            try clear c26b0
            try clear c26b1
            try clear c27
            try clear c27b0
            try clear c27b1
            try clear c28
            try clear c28b0
            try clear c29
            try clear c29b0
            try clear c29b1
            try clear c30
            try clear p2
            try clear p6
            obtain ⟨kq, HA, HJ12, HB⟩ := hcut
            cases kq with
            | zero => exact absurd HA.out (by simp [laws_FnFilled.j2])
            | succ kj12 =>
              have H := HA.out
              clear HA
              simp only [laws_FnFilled.j2] at H
              replace H := Option.bind_eq_some_iff.mp H
              obtain ⟨⟨t208, t209⟩, A310, H⟩ := H
              replace H : ((impl_MendByte.f kj12 t208 t209).bind fun bt210 => ((spec_MendByte.f kj12 t208 t209).bind fun bt212 => (if (bt210.2 != bt212.2) = true then (none) else (laws_FnFilled.j3 kj12 l1 bt210.1 bt210.2 (bt210.1.toList != bt212.1.toList))))) = some r := H
              have A31 := Aside0.mk A310
              clear A310
              replace H := Option.bind_eq_some_iff.mp H
              obtain ⟨⟨t210, t211⟩, A320, H⟩ := H
              replace H : ((spec_MendByte.f kj12 t208 t209).bind fun bt212 => (if (t211 != bt212.2) = true then (none) else (laws_FnFilled.j3 kj12 l1 t210 t211 (t210.toList != bt212.1.toList)))) = some r := H
              have A32 := Aside0.mk A320
              clear A320
              replace H := Option.bind_eq_some_iff.mp H
              obtain ⟨⟨t212, t213⟩, A330, H⟩ := H
              replace H : (if (t211 != t213) = true then (none) else (laws_FnFilled.j3 kj12 l1 t210 t211 (t210.toList != t212.toList))) = some r := H
              have A33 := Aside0.mk A330
              clear A330
              have HC34 := Aside0.mk H
              clear H
              go_upto_region 15 with (first | (go_at_call 28; (with_reducible refine (spec_DrawMendByte.calls kj12 _ _ l1 t208 t209 _ ?side1 ?side2 A31.out).mono ?_); (case side1 => repeat (first | exact (Kd.C_below HR1.out HB.out) | (with_reducible refine Kd.C_alloc ?_ _) | (with_reducible refine Kd.C_drewN ?_ _) | (with_reducible refine Kd.C_drew ?_))); (case side2 => exact HC1.out); rintro e w35 ⟨rfl, hb⟩; have n0_ := Aside0.mk (below_step (by repeat (first | (with_reducible first | exact HB.out | apply below_alloc | apply pw_below_drewN | apply below_drew1) | exact HB.out)) hb); clear HB; have HB := n0_; clear n0_; (try clear hb); (try clear hb2); (try clear hk); (try clear hi)) | (go_at_call 24; (with_reducible refine (impl_MendByte.calls kj12 t208 t209 t210 t211 _ A32.out).mono ?_); rintro e w36 ⟨rfl, hb⟩; have n0_ := Aside0.mk (below_step (by repeat (first | (with_reducible first | exact HB.out | apply below_alloc | apply pw_below_drewN | apply below_drew1) | exact HB.out)) hb); clear HB; have HB := n0_; clear n0_; (try clear hb); (try clear hb2); (try clear hk); (try clear hi)) | (go_at_call 23; (with_reducible refine (spec_MendByte.calls kj12 t208 t209 t212 t213 _ A33.out).mono ?_); rintro e w37 ⟨rfl, hb⟩; have n0_ := Aside0.mk (below_step (by repeat (first | (with_reducible first | exact HB.out | apply below_alloc | apply pw_below_drewN | apply below_drew1) | exact HB.out)) hb); clear HB; have HB := n0_; clear n0_; (try clear hb); (try clear hb2); (try clear hk); (try clear hi)))
              repeat (go_quiet (first | (go_at_call 28; (with_reducible refine (spec_DrawMendByte.calls kj12 _ _ l1 t208 t209 _ ?side1 ?side2 A31.out).mono ?_); (case side1 => repeat (first | exact (Kd.C_below HR1.out HB.out) | (with_reducible refine Kd.C_alloc ?_ _) | (with_reducible refine Kd.C_drewN ?_ _) | (with_reducible refine Kd.C_drew ?_))); (case side2 => exact HC1.out); rintro e w35 ⟨rfl, hb⟩; clear A31; have n0_ := Aside0.mk (below_step (by repeat (first | (with_reducible first | exact HB.out | apply below_alloc | apply pw_below_drewN | apply below_drew1) | exact HB.out)) hb); clear HB; have HB := n0_; clear n0_; (try clear hb); (try clear hb2); (try clear hk); (try clear hi)) | (go_at_call 24; (with_reducible refine (impl_MendByte.calls kj12 t208 t209 t210 t211 _ A32.out).mono ?_); rintro e w36 ⟨rfl, hb⟩; clear A32; have n0_ := Aside0.mk (below_step (by repeat (first | (with_reducible first | exact HB.out | apply below_alloc | apply pw_below_drewN | apply below_drew1) | exact HB.out)) hb); clear HB; have HB := n0_; clear n0_; (try clear hb); (try clear hb2); (try clear hk); (try clear hi)) | (go_at_call 23; (with_reducible refine (spec_MendByte.calls kj12 t208 t209 t212 t213 _ A33.out).mono ?_); rintro e w37 ⟨rfl, hb⟩; clear A33; have n0_ := Aside0.mk (below_step (by repeat (first | (with_reducible first | exact HB.out | apply below_alloc | apply pw_below_drewN | apply below_drew1) | exact HB.out)) hb); clear HB; have HB := n0_; clear n0_; (try clear hb); (try clear hb2); (try clear hk); (try clear hi))); go_upto_region 15 with (first | (go_at_call 28; (with_reducible refine (spec_DrawMendByte.calls kj12 _ _ l1 t208 t209 _ ?side1 ?side2 A31.out).mono ?_); (case side1 => repeat (first | exact (Kd.C_below HR1.out HB.out) | (with_reducible refine Kd.C_alloc ?_ _) | (with_reducible refine Kd.C_drewN ?_ _) | (with_reducible refine Kd.C_drew ?_))); (case side2 => exact HC1.out); rintro e w35 ⟨rfl, hb⟩; clear A31; have n0_ := Aside0.mk (below_step (by repeat (first | (with_reducible first | exact HB.out | apply below_alloc | apply pw_below_drewN | apply below_drew1) | exact HB.out)) hb); clear HB; have HB := n0_; clear n0_; (try clear hb); (try clear hb2); (try clear hk); (try clear hi)) | (go_at_call 24; (with_reducible refine (impl_MendByte.calls kj12 t208 t209 t210 t211 _ A32.out).mono ?_); rintro e w36 ⟨rfl, hb⟩; clear A32; have n0_ := Aside0.mk (below_step (by repeat (first | (with_reducible first | exact HB.out | apply below_alloc | apply pw_below_drewN | apply below_drew1) | exact HB.out)) hb); clear HB; have HB := n0_; clear n0_; (try clear hb); (try clear hb2); (try clear hk); (try clear hi)) | (go_at_call 23; (with_reducible refine (spec_MendByte.calls kj12 t208 t209 t212 t213 _ A33.out).mono ?_); rintro e w37 ⟨rfl, hb⟩; clear A33; have n0_ := Aside0.mk (below_step (by repeat (first | (with_reducible first | exact HB.out | apply below_alloc | apply pw_below_drewN | apply below_drew1) | exact HB.out)) hb); clear HB; have HB := n0_; clear n0_; (try clear hb); (try clear hb2); (try clear hk); (try clear hi))))
              (try simp only [Act.put, List.setIfInBounds_toArray, List.set_cons_zero, List.set_cons_succ])
              go_cut [121] (fun v121 wc => ∃ (kq : Nat) (x121_33 : Bool), v121 = .bool x121_33 ∧ Aside0 (laws_FnFilled.j3 kq l1 t210 t211 x121_33 = some r) ∧ Aside0 (kq ≤ kj12) ∧ Aside0 (Below w.heap.size w wc))
              case first =>
                have H := HC34.out
                clear HC34
                by_cases c38 : (t211 != t213) = true
                · rw [if_pos c38] at H
                  exact absurd H (by simp)
                · rw [if_neg c38] at H
                  have c38b0 : (t211 != t213) = false := by simpa using c38
                  (try (have c38b1 : decide (t211 = t213) = true := by simpa using c38))
                  (try (have c38b2 : (t211 == t213) = true := by simpa using c38))
                  clear c38
                  (first | rw [c38b0] | (simp only [i64_w, i32_w]; rw [c38b0]) | skip)
                  have H' := Aside0.mk H
                  clear H
                  go_wp2
                  repeat (go_quiet (fail); try go_wp2)
                  go_meet
                  case rel => exact ⟨_, ((t210.toList != t212.toList)), (by first | rfl | (simp; done) | (simp [*]; done)), H', ⟨by have := HJ6.out; have := HJ12.out; first | omega | exact Nat.le_refl _⟩, ⟨by repeat (first | (with_reducible first | exact HB.out | apply below_alloc | apply pw_below_drewN | apply below_drew1) | exact HB.out)⟩⟩
              case rest =>
                clear HC34
                try clear c1
                try clear c2
                try clear p2
                try clear c3
                try clear c3b0
                try clear p6
                try clear c11
                try clear c11b0
                try clear c11b1
                try clear c11b2
                try clear c12
                try clear c14
                try clear c17
                try clear c18
                try clear c19
                try clear c19b0
                try clear c19b1
                try clear c19b2
                try clear c20
                try clear c20b0
                try clear c20b1
                try clear c21
                try clear c21b0
                try clear c21b1
                try clear c22
                try clear c22b0
                try clear c23
                try clear c23b0
                try clear c23b1
                try clear c24
                try clear c24b0
                try clear c24b1
                try clear c26
                try clear c26b0
                try clear c26b1
                try clear c27
                try clear c27b0
                try clear c27b1
                try clear c28
                try clear c28b0
                try clear c29
                try clear c29b0
                try clear c29b1
                try clear c30
                try clear c38
                try clear c38b0
                try clear c38b1
                try clear c38b2
                try clear p2
                try clear p6
                obtain ⟨kq, x121_33, rfl, HA, HJ33, HB⟩ := hcut
                cases kq with
                | zero => exact absurd HA.out (by simp [laws_FnFilled.j3])
                | succ kj33 =>
                  have H := HA.out
                  clear HA
                  simp only [laws_FnFilled.j3] at H
                  by_cases c39 : x121_33 = true
                  · subst c39
                    have H1 : (none) = some r := by rw [if_pos rfl] at H; exact H
                    clear H
                    have H := H1
                    clear H1
                    exact absurd H (by simp)
                  · replace c39 := Bool.eq_false_iff.mpr c39
                    subst c39
                    have H1 : (if t211 = true then ((impl_SumOf.f kj33 t210).bind fun bt214 => (if bt214.2.2 = true then (if bt214.1 = 0 then (laws_FnFilled.j4 kj33 l1) else (none)) else (none))) else (laws_FnFilled.j4 kj33 l1)) = some r := by rw [if_neg (show ¬ (false = true) by decide)] at H; exact H
                    clear H
                    have H := H1
                    clear H1
                    have HC40 := Aside0.mk H
                    clear H
                    go_upto_if 122 with (fail)
                    repeat (go_quiet (fail); go_upto_if 122 with (fail))
                    go_cut [] (fun wc => ∃ (kq : Nat), Aside0 (laws_FnFilled.j4 kq l1 = some r) ∧ Aside0 (kq ≤ kj33) ∧ Aside0 (Below w.heap.size w wc))
                    case first =>
                      have H := HC40.out
                      clear HC40
                      by_cases c41 : t211 = true
                      · subst c41
                        have H1 : ((impl_SumOf.f kj33 t210).bind fun bt214 => (if bt214.2.2 = true then (if bt214.1 = 0 then (laws_FnFilled.j4 kj33 l1) else (none)) else (none))) = some r := by rw [if_pos rfl] at H; exact H
                        clear H
                        have H := H1
                        clear H1
                        replace H := Option.bind_eq_some_iff.mp H
                        obtain ⟨⟨t214, t215, t216⟩, A420, H⟩ := H
                        replace H : (if t216 = true then (if t214 = 0 then (laws_FnFilled.j4 kj33 l1) else (none)) else (none)) = some r := H
                        have A42 := Aside0.mk A420
                        clear A420
                        by_cases c43 : t216 = true
                        · subst c43
                          have H1 : (if t214 = 0 then (laws_FnFilled.j4 kj33 l1) else (none)) = some r := by rw [if_pos rfl] at H; exact H
                          clear H
                          have H := H1
                          clear H1
                          by_cases c44 : t214 = 0
                          · rw [if_pos c44] at H
                            have c44b0 : (t214 == 0) = true := beq_iff_eq.mpr c44
                            have c44b1 : (t214 != 0) = false := bne_eq_false_iff_eq.mpr c44
                            clear c44
                            (first | rw [c44b0] | (simp only [i64_w, i32_w]; rw [c44b0]) | skip)
                            have H' := Aside0.mk H
                            clear H
                            go_wp2_with (first | (go_at_call 20; (with_reducible refine (impl_SumOf.calls kj33 t210 t214 t215 true _ A42.out).mono ?_); rintro e w' ⟨rfl, ⟨nd, rfl⟩⟩; (try first | exact ⟨rfl, _, World.drewN_drewN _ _ _⟩ | exact ⟨rfl, _, Eq.trans (World.drewN_drewN _ _ _) (congrArg (World.drewN _) (Nat.add_assoc _ _ _))⟩)))
                            repeat (go_quiet (first | (go_at_call 20; (with_reducible refine (impl_SumOf.calls kj33 t210 t214 t215 true _ A42.out).mono ?_); rintro e w' ⟨rfl, ⟨nd, rfl⟩⟩; (try first | exact ⟨rfl, _, World.drewN_drewN _ _ _⟩ | exact ⟨rfl, _, Eq.trans (World.drewN_drewN _ _ _) (congrArg (World.drewN _) (Nat.add_assoc _ _ _))⟩))); try go_wp2_with (first | (go_at_call 20; (with_reducible refine (impl_SumOf.calls kj33 t210 t214 t215 true _ A42.out).mono ?_); rintro e w' ⟨rfl, ⟨nd, rfl⟩⟩; (try first | exact ⟨rfl, _, World.drewN_drewN _ _ _⟩ | exact ⟨rfl, _, Eq.trans (World.drewN_drewN _ _ _) (congrArg (World.drewN _) (Nat.add_assoc _ _ _))⟩))))
                            go_meet
                            case rel => exact ⟨_, H', ⟨by have := HJ6.out; have := HJ12.out; have := HJ33.out; first | omega | exact Nat.le_refl _⟩, ⟨by repeat (first | (with_reducible first | exact HB.out | apply below_alloc | apply pw_below_drewN | apply below_drew1) | exact HB.out)⟩⟩
                          · rw [if_neg c44] at H
                            exact absurd H (by simp)
                        · replace c43 := Bool.eq_false_iff.mpr c43
                          subst c43
                          have H1 : (none) = some r := by rw [if_neg (show ¬ (false = true) by decide)] at H; exact H
                          clear H
                          have H := H1
                          clear H1
                          exact absurd H (by simp)
                      · replace c41 := Bool.eq_false_iff.mpr c41
                        subst c41
                        have H1 : (laws_FnFilled.j4 kj33 l1) = some r := by rw [if_neg (show ¬ (false = true) by decide)] at H; exact H
                        clear H
                        have H := H1
                        clear H1
                        have H' := Aside0.mk H
                        clear H
                        go_wp2
                        repeat (go_quiet (fail); try go_wp2)
                        go_meet
                        case rel => exact ⟨_, H', ⟨by have := HJ6.out; have := HJ12.out; have := HJ33.out; first | omega | exact Nat.le_refl _⟩, ⟨by repeat (first | (with_reducible first | exact HB.out | apply below_alloc | apply pw_below_drewN | apply below_drew1) | exact HB.out)⟩⟩
                    case rest =>
                      clear HC40
                      try clear c1
                      try clear c2
                      try clear p2
                      try clear c3
                      try clear c3b0
                      try clear c4
                      try clear p6
                      try clear c11
                      try clear c11b0
                      try clear c11b1
                      try clear c11b2
                      try clear c12
                      try clear c14
                      try clear c17
                      try clear c18
                      try clear c19
                      try clear c19b0
                      try clear c19b1
                      try clear c19b2
                      try clear c20
                      try clear c20b0
                      try clear c20b1
                      try clear c21
                      try clear c21b0
                      try clear c21b1
                      try clear c22
                      try clear c22b0
                      try clear c23
                      try clear c23b0
                      try clear c23b1
                      try clear c24
                      try clear c24b0
                      try clear c24b1
                      try clear c26
                      try clear c26b0
                      try clear c26b1
                      try clear c27
                      try clear c27b0
                      try clear c27b1
                      try clear c28
                      try clear c28b0
                      try clear c29
                      try clear c29b0
                      try clear c29b1
                      try clear c30
                      try clear c38
                      try clear c38b0
                      try clear c38b1
                      try clear c38b2
                      try clear c39
                      try clear c41
                      try clear c43
                      try clear c44
                      try clear c44b0
                      try clear c44b1
                      try clear p2
                      try clear p6
                      obtain ⟨kq, HA, HJ39, HB⟩ := hcut
                      cases kq with
                      | zero => exact absurd HA.out (by simp [laws_FnFilled.j4])
                      | succ kj39 =>
                        have H := HA.out
                        clear HA
                        simp only [laws_FnFilled.j4] at H
                        replace H := Option.bind_eq_some_iff.mp H
                        obtain ⟨t217, A450, H⟩ := H
                        replace H : ((impl_IsWhole.f kj39 t217).bind fun bt218 => ((spec_IsWhole.f kj39 t217).bind fun bt220 => (if (bt218.2 == bt220.2) = true then (some (bt218.1 == bt220.1)) else (none)))) = some r := H
                        have A45 := Aside0.mk A450
                        clear A450
                        replace H := Option.bind_eq_some_iff.mp H
                        obtain ⟨⟨t218, t219⟩, A460, H⟩ := H
                        replace H : ((spec_IsWhole.f kj39 t217).bind fun bt220 => (if (t219 == bt220.2) = true then (some (t218 == bt220.1)) else (none))) = some r := H
                        have A46 := Aside0.mk A460
                        clear A460
                        replace H := Option.bind_eq_some_iff.mp H
                        obtain ⟨⟨t220, t221⟩, A470, H⟩ := H
                        replace H : (if (t219 == t221) = true then (some (t218 == t220)) else (none)) = some r := H
                        have A47 := Aside0.mk A470
                        clear A470
                        by_cases c48 : (t219 == t221) = true
                        · rw [if_pos c48] at H
                          have c48b0 : (t219 == t221) = true := c48
                          (try (have c48b1 : decide (t219 = t221) = true := by simpa using c48))
                          (try (have c48b2 : (t219 == t221) = true := by simpa using c48))
                          clear c48
                          obtain rfl := Option.some.inj H
                          go_wp2_with (first | (go_at_call 29; (with_reducible refine (spec_DrawIsWhole.calls kj39 _ _ l1 t217 _ ?side1 ?side2 A45.out).mono ?_); (case side1 => repeat (first | exact (Kd.C_below HR1.out HB.out) | (with_reducible refine Kd.C_alloc ?_ _) | (with_reducible refine Kd.C_drewN ?_ _) | (with_reducible refine Kd.C_drew ?_))); (case side2 => exact HC1.out); rintro e w49 ⟨rfl, hb⟩; have n0_ := Aside0.mk (below_step (by repeat (first | (with_reducible first | exact HB.out | apply below_alloc | apply pw_below_drewN | apply below_drew1) | exact HB.out)) hb); clear HB; have HB := n0_; clear n0_; (try clear hb); (try clear hb2); (try clear hk); (try clear hi)) | (go_at_call 22; (with_reducible refine (impl_IsWhole.calls kj39 t217 t218 t219 _ A46.out).mono ?_); rintro e w' ⟨rfl, ⟨nd, rfl⟩⟩; (try first | exact ⟨rfl, _, World.drewN_drewN _ _ _⟩ | exact ⟨rfl, _, Eq.trans (World.drewN_drewN _ _ _) (congrArg (World.drewN _) (Nat.add_assoc _ _ _))⟩)) | (go_at_call 21; (with_reducible refine (spec_IsWhole.calls kj39 t217 t220 t221 _ A47.out).mono ?_); rintro e w' ⟨rfl, ⟨nd, rfl⟩⟩; (try first | exact ⟨rfl, _, World.drewN_drewN _ _ _⟩ | exact ⟨rfl, _, Eq.trans (World.drewN_drewN _ _ _) (congrArg (World.drewN _) (Nat.add_assoc _ _ _))⟩)))
                          repeat (go_quiet (first | (go_at_call 29; (with_reducible refine (spec_DrawIsWhole.calls kj39 _ _ l1 t217 _ ?side1 ?side2 A45.out).mono ?_); (case side1 => repeat (first | exact (Kd.C_below HR1.out HB.out) | (with_reducible refine Kd.C_alloc ?_ _) | (with_reducible refine Kd.C_drewN ?_ _) | (with_reducible refine Kd.C_drew ?_))); (case side2 => exact HC1.out); rintro e w49 ⟨rfl, hb⟩; clear A45; have n0_ := Aside0.mk (below_step (by repeat (first | (with_reducible first | exact HB.out | apply below_alloc | apply pw_below_drewN | apply below_drew1) | exact HB.out)) hb); clear HB; have HB := n0_; clear n0_; (try clear hb); (try clear hb2); (try clear hk); (try clear hi)) | (go_at_call 22; (with_reducible refine (impl_IsWhole.calls kj39 t217 t218 t219 _ A46.out).mono ?_); rintro e w' ⟨rfl, ⟨nd, rfl⟩⟩; (try first | exact ⟨rfl, _, World.drewN_drewN _ _ _⟩ | exact ⟨rfl, _, Eq.trans (World.drewN_drewN _ _ _) (congrArg (World.drewN _) (Nat.add_assoc _ _ _))⟩)) | (go_at_call 21; (with_reducible refine (spec_IsWhole.calls kj39 t217 t220 t221 _ A47.out).mono ?_); rintro e w' ⟨rfl, ⟨nd, rfl⟩⟩; (try first | exact ⟨rfl, _, World.drewN_drewN _ _ _⟩ | exact ⟨rfl, _, Eq.trans (World.drewN_drewN _ _ _) (congrArg (World.drewN _) (Nat.add_assoc _ _ _))⟩))); try go_wp2_with (first | (go_at_call 29; (with_reducible refine (spec_DrawIsWhole.calls kj39 _ _ l1 t217 _ ?side1 ?side2 A45.out).mono ?_); (case side1 => repeat (first | exact (Kd.C_below HR1.out HB.out) | (with_reducible refine Kd.C_alloc ?_ _) | (with_reducible refine Kd.C_drewN ?_ _) | (with_reducible refine Kd.C_drew ?_))); (case side2 => exact HC1.out); rintro e w49 ⟨rfl, hb⟩; clear A45; have n0_ := Aside0.mk (below_step (by repeat (first | (with_reducible first | exact HB.out | apply below_alloc | apply pw_below_drewN | apply below_drew1) | exact HB.out)) hb); clear HB; have HB := n0_; clear n0_; (try clear hb); (try clear hb2); (try clear hk); (try clear hi)) | (go_at_call 22; (with_reducible refine (impl_IsWhole.calls kj39 t217 t218 t219 _ A46.out).mono ?_); rintro e w' ⟨rfl, ⟨nd, rfl⟩⟩; (try first | exact ⟨rfl, _, World.drewN_drewN _ _ _⟩ | exact ⟨rfl, _, Eq.trans (World.drewN_drewN _ _ _) (congrArg (World.drewN _) (Nat.add_assoc _ _ _))⟩)) | (go_at_call 21; (with_reducible refine (spec_IsWhole.calls kj39 t217 t220 t221 _ A47.out).mono ?_); rintro e w' ⟨rfl, ⟨nd, rfl⟩⟩; (try first | exact ⟨rfl, _, World.drewN_drewN _ _ _⟩ | exact ⟨rfl, _, Eq.trans (World.drewN_drewN _ _ _) (congrArg (World.drewN _) (Nat.add_assoc _ _ _))⟩))))
                          go_ret
                          exact ⟨by first | rfl | (simp [errW_none, errW_some] <;> rfl) | (simp [*, errW_none, errW_some] <;> rfl), by repeat (first | (with_reducible first | exact HB.out | apply below_alloc | apply pw_below_drewN | apply below_drew1) | exact HB.out)⟩
                        · rw [if_neg c48] at H
                          exact absurd H (by simp)

/-- THE ONE PURE STATEMENT of laws_FnFilled: yours. -/
def laws_FnFilled.Pure : Prop := ∀ (l0 : List Int) (l1 : List Int), l0.length ≤ maxLen → l0.length * 1 ≤ 140737488351232 → (∀ x ∈ l0, (Lit.int .u8 x).wf = true) → l1.length ≤ maxLen → l1.length * 1 ≤ 140737488351232 → (∀ x ∈ l1, (Lit.int .u8 x).wf = true) → ∃ k, laws_FnFilled.f k l0 l1 = some true
theorem laws_FnFilled.walk (P : laws_FnFilled.Pure) (a0 : Option Addr) (len0 cap0 : Nat) (z0 : List Int) (a1 : Option Addr) (len1 cap1 : Nat) (z1 : List Int) (w : World) (w0 : (a0 = none ∧ len0 = 0 ∧ cap0 = 0 ∧ z0 = []) ∨ ∃ x, a0 = some x ∧ len0 ≤ cap0 ∧ cap0 ≤ maxLen ∧ z0.length = cap0 ∧ (∀ i, i < z0.length → w.cell? (x.add i) = some (.int .u8 (z0.getD i 0))) ∧ ∀ n ∈ z0, (Lit.int .u8 n).wf = true) (y0 : len0 * 1 ≤ 140737488351232) (w1 : (a1 = none ∧ len1 = 0 ∧ cap1 = 0 ∧ z1 = []) ∨ ∃ x, a1 = some x ∧ len1 ≤ cap1 ∧ cap1 ≤ maxLen ∧ z1.length = cap1 ∧ (∀ i, i < z1.length → w.cell? (x.add i) = some (.int .u8 (z1.getD i 0))) ∧ ∀ n ∈ z1, (Lit.int .u8 n).wf = true) (y1 : len1 * 1 ≤ 140737488351232) :
    Calls Try.prog 11 #[.slice a0 len0 cap0, .slice a1 len1 cap1] w fun e w' => e = .returned (.bool true) ∧ Below w.heap.size w w' := by
  obtain ⟨l0, rfl, hr0, hm0, hw0, hc0⟩ := ReadsInt.ofRowC w0
  obtain ⟨l1, rfl, hr1, hm1, hw1, hc1⟩ := ReadsInt.ofRowC w1
  obtain ⟨k, h⟩ := P l0 l1 hm0 y0 hw0 hm1 y1 hw1
  refine (laws_FnFilled.calls k _ _ l0 _ _ l1 true w (Kd.C_of_reads (d := (0 : Int)) (h1 := fun _ => rfl) hr0) hc0 (Kd.C_of_reads (d := (0 : Int)) (h1 := fun _ => rfl) hr1) hc1 h).mono ?_
  rintro e w' ⟨rfl, hd⟩
  exact ⟨rfl, hd⟩

end Go.Proofs.Ytmagnbbpbhmacaa.PFnFilled
