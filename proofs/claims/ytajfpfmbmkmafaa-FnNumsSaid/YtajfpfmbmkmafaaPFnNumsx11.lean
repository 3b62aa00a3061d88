-- Written by a program of this project (myprint.py, by way of the kit's printer). Not trusted: Lean checks it.
import Derived.Test.YtajfpfmbmkmafaaPFnNumsx0
import Derived.Test.YtajfpfmbmkmafaaPFnNumsx1
import Derived.Test.YtajfpfmbmkmafaaPFnNumsx2
import Derived.Test.YtajfpfmbmkmafaaPFnNumsx3
import Derived.Test.YtajfpfmbmkmafaaPFnNumsx4
import Derived.Test.YtajfpfmbmkmafaaPFnNumsx5
import Derived.Test.YtajfpfmbmkmafaaPFnNumsx6
import Derived.Test.YtajfpfmbmkmafaaPFnNumsx7
import Derived.Test.YtajfpfmbmkmafaaPFnNumsx8
import Derived.Test.YtajfpfmbmkmafaaPFnNumsx9
import Derived.Test.YtajfpfmbmkmafaaPFnNumsx10
namespace Go.Proofs.Ytajfpfmbmkmafaa.PFnNums
open Go.RowKit Go.Proofs.YtajfpfmbmkmafaaW.PrintWords Go.Proofs.YtajfpfmbmkmafaaW.PrintLast Go.Proofs.YtajfpfmbmkmafaaW.PrintMore
attribute [local go_sem] max2_int min2_int max_two min_two max_three min_three max_four min_four   -- for this text's walks alone
set_option linter.unusedVariables false
set_option linter.unusedSimpArgs false

/-! ### laws_FnNums: function 11 -/
mutual
def laws_FnNums.j0 : Nat → List Int → List Int → ByteArray → Bool → Bool → Option (Bool)
  | 0, _, _, _, _, _ => none
  | k + 1, x1, x5, x6, x7, x59 => if x59 = true then (none) else (if x7 = true then ((impl_TakeNums.f k x6).bind fun bt394 => (if bt394.2 = true then ((laws_sameInts.f k bt394.1 x5).bind fun t398 => (if t398 = true then (laws_FnNums.j1 k x1 ((x6.size : Int) != (wrap64 (2 * (x5.length : Int))))) else (none))) else (none))) else (laws_FnNums.j2 k x1))
def laws_FnNums.j2 : Nat → List Int → Option (Bool)
  | 0, _ => none
  | k + 1, x1 => (spec_DrawTakeNums.f k x1).bind fun t399 => ((impl_TakeNums.f k t399).bind fun bt400 => ((spec_TakeNums.f k t399).bind fun bt404 => ((spec_DrawPartsOf.f k x1).bind fun bt408 => ((impl_PartsOf.f k bt408.1 bt408.2).bind fun bt412 => ((spec_PartsOf.f k bt408.1 bt408.2).bind fun bt416 => (if (bt400.2 != bt404.2) = true then (none) else ((laws_sameInts.f k bt400.1 bt404.1).bind fun t420 => (if t420 = true then (if (bt412.2 != bt416.2) = true then (none) else ((laws_sameParts.f k bt412.1 bt416.1).bind fun t421 => (laws_FnNums.j3 k x1 bt408.2 bt412.1 (!t421)))) else (none)))))))))
def laws_FnNums.j3 : Nat → List Int → Int → List (S38) → Bool → Option (Bool)
  | 0, _, _, _, _ => none
  | k + 1, x1, x18, x19, x130 => if x130 = true then (none) else (laws_FnNums.l0 k x1 x18 x19 (x19.length : Int) 0)
def laws_FnNums.l0 : Nat → List Int → Int → List (S38) → Int → Int → Option (Bool)
  | 0, _, _, _, _, _ => none
  | k + 1, x1, x18, x131, x132, x133 => if x133 < x132 then (if 0 ≤ x133 then (if x133 < (x131.length : Int) then (if ((rd_T38 x131 x133).f0) = x18 then (laws_FnNums.l0 k x1 x18 x131 x132 (wrap64 (x133 + 1))) else (none)) else (none)) else (none)) else ((spec_DrawPartText.f k x1).bind fun bt424 => ((impl_PartText.f k bt424.1 bt424.2.1 bt424.2.2).bind fun bt430 => ((spec_PartText.f k bt424.1 bt424.2.1 bt424.2.2).bind fun bt432 => (if (bt430.2 != bt432.2) = true then (none) else (if bt430.1.toList = bt432.1.toList then ((impl_GoodPart.f k bt424.1 bt424.2.1 bt424.2.2).bind fun t434 => (laws_FnNums.j5 k bt430.1 bt430.2 (t434 != bt430.2) bt424.1 bt424.2.1 bt424.2.2)) else (none))))))
def laws_FnNums.j5 : Nat → ByteArray → Bool → Bool → Int → ByteArray → List Int → Option (Bool)
  | 0, _, _, _, _, _, _ => none
  | k + 1, x26, x27, x167, x430000, x430001, x430002 => if x167 = true then (none) else (if x27 = true then ((impl_SkipPart.f x26).bind fun bt435 => (if bt435.2.2.2 = true then (if bt435.1 = x430000 then (if bt435.2.1 = (wrap64 ((x26.size : Int) - 2)) then (if 2 ≤ (x26.size : Int) then (some (bt435.2.2.1.toList == (x26.extract 2 x26.size).toList)) else (none)) else (none)) else (none)) else (none))) else (some true))
def laws_FnNums.j1 : Nat → List Int → Bool → Option (Bool)
  | 0, _, _ => none
  | k + 1, x1, x81 => if x81 = true then (none) else (laws_FnNums.j2 k x1)
end
def laws_FnNums.f (k : Nat) (l0 : List Int) (l1 : List Int) : Option (Bool) := if (wrap64 ((l0.length : Int) + (l1.length : Int))) > 1048576 then (some true) else ((spec_DrawPutNums.f k l0).bind fun t387 => ((impl_PutNums.f k t387).bind fun bt390 => ((spec_PutNums.f k t387).bind fun bt392 => (if (bt390.2 != bt392.2) = true then (none) else (laws_FnNums.j0 k l1 t387 bt390.1 bt390.2 (bt390.1.toList != bt392.1.toList))))))
theorem laws_FnNums.mono_l : ∀ k, (∀ y0 y1 y2 y3 y4, LeO (laws_FnNums.j0 k y0 y1 y2 y3 y4) (laws_FnNums.j0 (k + 1) y0 y1 y2 y3 y4)) ∧ (∀ y0, LeO (laws_FnNums.j2 k y0) (laws_FnNums.j2 (k + 1) y0)) ∧ (∀ y0 y1 y2 y3, LeO (laws_FnNums.j3 k y0 y1 y2 y3) (laws_FnNums.j3 (k + 1) y0 y1 y2 y3)) ∧ (∀ y0 y1 y2 y3 y4, LeO (laws_FnNums.l0 k y0 y1 y2 y3 y4) (laws_FnNums.l0 (k + 1) y0 y1 y2 y3 y4)) ∧ (∀ y0 y1 y2 y3 y4 y5, LeO (laws_FnNums.j5 k y0 y1 y2 y3 y4 y5) (laws_FnNums.j5 (k + 1) y0 y1 y2 y3 y4 y5)) ∧ (∀ y0 y1, LeO (laws_FnNums.j1 k y0 y1) (laws_FnNums.j1 (k + 1) y0 y1))
  | 0 => ⟨fun _ _ _ _ _ r h => by simp [laws_FnNums.j0] at h, fun _ r h => by simp [laws_FnNums.j2] at h, fun _ _ _ _ r h => by simp [laws_FnNums.j3] at h, fun _ _ _ _ _ r h => by simp [laws_FnNums.l0] at h, fun _ _ _ _ _ _ r h => by simp [laws_FnNums.j5] at h, fun _ _ r h => by simp [laws_FnNums.j1] at h⟩
  | k + 1 => by
    obtain ⟨ih0, ih1, ih2, ih3, ih4, ih5⟩ := laws_FnNums.mono_l k
    refine ⟨?_, ?_, ?_, ?_, ?_, ?_⟩
    · intro y0 y1 y2 y3 y4
      unfold laws_FnNums.j0
      repeat' first
      | (with_reducible exact ih0 _ _ _ _ _)
      | (with_reducible exact ih1 _)
      | (with_reducible exact ih2 _ _ _ _)
      | (with_reducible exact ih3 _ _ _ _ _)
      | (with_reducible exact ih4 _ _ _ _ _ _)
      | (with_reducible exact ih5 _ _)
      | (with_reducible exact impl_GoodPart.mono _ _ _ _)
      | (with_reducible exact impl_PartText.mono _ _ _ _)
      | (with_reducible exact impl_PartsOf.mono _ _ _)
      | (with_reducible exact impl_PutNums.mono _ _)
      | (with_reducible exact impl_TakeNums.mono _ _)
      | (with_reducible exact laws_sameInts.mono _ _ _)
      | (with_reducible exact laws_sameParts.mono _ _ _)
      | (with_reducible exact spec_DrawPartText.mono _ _)
      | (with_reducible exact spec_DrawPartsOf.mono _ _)
      | (with_reducible exact spec_DrawPutNums.mono _ _)
      | (with_reducible exact spec_DrawTakeNums.mono _ _)
      | (with_reducible exact spec_PartText.mono _ _ _ _)
      | (with_reducible exact spec_PartsOf.mono _ _ _)
      | (with_reducible exact spec_PutNums.mono _ _)
      | (with_reducible exact spec_TakeNums.mono _ _)
      | (with_reducible exact LeO.refl _)
      | (with_reducible exact LeO.none _)
      | (with_reducible refine LeO.ite ?_ ?_)
      | (with_reducible refine LeO.bind ?_ (fun _ => ?_))
      | exact ih0 _ _ _ _ _
      | exact ih1 _
      | exact ih2 _ _ _ _
      | exact ih3 _ _ _ _ _
      | exact ih4 _ _ _ _ _ _
      | exact ih5 _ _
      | exact impl_GoodPart.mono _ _ _ _
      | exact impl_PartText.mono _ _ _ _
      | exact impl_PartsOf.mono _ _ _
      | exact impl_PutNums.mono _ _
      | exact impl_TakeNums.mono _ _
      | exact laws_sameInts.mono _ _ _
      | exact laws_sameParts.mono _ _ _
      | exact spec_DrawPartText.mono _ _
      | exact spec_DrawPartsOf.mono _ _
      | exact spec_DrawPutNums.mono _ _
      | exact spec_DrawTakeNums.mono _ _
      | exact spec_PartText.mono _ _ _ _
      | exact spec_PartsOf.mono _ _ _
      | exact spec_PutNums.mono _ _
      | exact spec_TakeNums.mono _ _
      | exact LeO.none _
      | refine LeO.ite ?_ ?_
      | refine LeO.bind ?_ (fun _ => ?_)
    · intro y0
      unfold laws_FnNums.j2
      repeat' first
      | (with_reducible exact ih0 _ _ _ _ _)
      | (with_reducible exact ih1 _)
      | (with_reducible exact ih2 _ _ _ _)
      | (with_reducible exact ih3 _ _ _ _ _)
      | (with_reducible exact ih4 _ _ _ _ _ _)
      | (with_reducible exact ih5 _ _)
      | (with_reducible exact impl_GoodPart.mono _ _ _ _)
      | (with_reducible exact impl_PartText.mono _ _ _ _)
      | (with_reducible exact impl_PartsOf.mono _ _ _)
      | (with_reducible exact impl_PutNums.mono _ _)
      | (with_reducible exact impl_TakeNums.mono _ _)
      | (with_reducible exact laws_sameInts.mono _ _ _)
      | (with_reducible exact laws_sameParts.mono _ _ _)
      | (with_reducible exact spec_DrawPartText.mono _ _)
      | (with_reducible exact spec_DrawPartsOf.mono _ _)
      | (with_reducible exact spec_DrawPutNums.mono _ _)
      | (with_reducible exact spec_DrawTakeNums.mono _ _)
      | (with_reducible exact spec_PartText.mono _ _ _ _)
      | (with_reducible exact spec_PartsOf.mono _ _ _)
      | (with_reducible exact spec_PutNums.mono _ _)
      | (with_reducible exact spec_TakeNums.mono _ _)
      | (with_reducible exact LeO.refl _)
      | (with_reducible exact LeO.none _)
      | (with_reducible refine LeO.ite ?_ ?_)
      | (with_reducible refine LeO.bind ?_ (fun _ => ?_))
      | exact ih0 _ _ _ _ _
      | exact ih1 _
      | exact ih2 _ _ _ _
      | exact ih3 _ _ _ _ _
      | exact ih4 _ _ _ _ _ _
      | exact ih5 _ _
      | exact impl_GoodPart.mono _ _ _ _
      | exact impl_PartText.mono _ _ _ _
      | exact impl_PartsOf.mono _ _ _
      | exact impl_PutNums.mono _ _
      | exact impl_TakeNums.mono _ _
      | exact laws_sameInts.mono _ _ _
      | exact laws_sameParts.mono _ _ _
      | exact spec_DrawPartText.mono _ _
      | exact spec_DrawPartsOf.mono _ _
      | exact spec_DrawPutNums.mono _ _
      | exact spec_DrawTakeNums.mono _ _
      | exact spec_PartText.mono _ _ _ _
      | exact spec_PartsOf.mono _ _ _
      | exact spec_PutNums.mono _ _
      | exact spec_TakeNums.mono _ _
      | exact LeO.none _
      | refine LeO.ite ?_ ?_
      | refine LeO.bind ?_ (fun _ => ?_)
    · intro y0 y1 y2 y3
      unfold laws_FnNums.j3
      repeat' first
      | (with_reducible exact ih0 _ _ _ _ _)
      | (with_reducible exact ih1 _)
      | (with_reducible exact ih2 _ _ _ _)
      | (with_reducible exact ih3 _ _ _ _ _)
      | (with_reducible exact ih4 _ _ _ _ _ _)
      | (with_reducible exact ih5 _ _)
      | (with_reducible exact impl_GoodPart.mono _ _ _ _)
      | (with_reducible exact impl_PartText.mono _ _ _ _)
      | (with_reducible exact impl_PartsOf.mono _ _ _)
      | (with_reducible exact impl_PutNums.mono _ _)
      | (with_reducible exact impl_TakeNums.mono _ _)
      | (with_reducible exact laws_sameInts.mono _ _ _)
      | (with_reducible exact laws_sameParts.mono _ _ _)
      | (with_reducible exact spec_DrawPartText.mono _ _)
      | (with_reducible exact spec_DrawPartsOf.mono _ _)
      | (with_reducible exact spec_DrawPutNums.mono _ _)
      | (with_reducible exact spec_DrawTakeNums.mono _ _)
      | (with_reducible exact spec_PartText.mono _ _ _ _)
      | (with_reducible exact spec_PartsOf.mono _ _ _)
      | (with_reducible exact spec_PutNums.mono _ _)
      | (with_reducible exact spec_TakeNums.mono _ _)
      | (with_reducible exact LeO.refl _)
      | (with_reducible exact LeO.none _)
      | (with_reducible refine LeO.ite ?_ ?_)
      | (with_reducible refine LeO.bind ?_ (fun _ => ?_))
      | exact ih0 _ _ _ _ _
      | exact ih1 _
      | exact ih2 _ _ _ _
      | exact ih3 _ _ _ _ _
      | exact ih4 _ _ _ _ _ _
      | exact ih5 _ _
      | exact impl_GoodPart.mono _ _ _ _
      | exact impl_PartText.mono _ _ _ _
      | exact impl_PartsOf.mono _ _ _
      | exact impl_PutNums.mono _ _
      | exact impl_TakeNums.mono _ _
      | exact laws_sameInts.mono _ _ _
      | exact laws_sameParts.mono _ _ _
      | exact spec_DrawPartText.mono _ _
      | exact spec_DrawPartsOf.mono _ _
      | exact spec_DrawPutNums.mono _ _
      | exact spec_DrawTakeNums.mono _ _
      | exact spec_PartText.mono _ _ _ _
      | exact spec_PartsOf.mono _ _ _
      | exact spec_PutNums.mono _ _
      | exact spec_TakeNums.mono _ _
      | exact LeO.none _
      | refine LeO.ite ?_ ?_
      | refine LeO.bind ?_ (fun _ => ?_)
    · intro y0 y1 y2 y3 y4
      unfold laws_FnNums.l0
      repeat' first
      | (with_reducible exact ih0 _ _ _ _ _)
      | (with_reducible exact ih1 _)
      | (with_reducible exact ih2 _ _ _ _)
      | (with_reducible exact ih3 _ _ _ _ _)
      | (with_reducible exact ih4 _ _ _ _ _ _)
      | (with_reducible exact ih5 _ _)
      | (with_reducible exact impl_GoodPart.mono _ _ _ _)
      | (with_reducible exact impl_PartText.mono _ _ _ _)
      | (with_reducible exact impl_PartsOf.mono _ _ _)
      | (with_reducible exact impl_PutNums.mono _ _)
      | (with_reducible exact impl_TakeNums.mono _ _)
      | (with_reducible exact laws_sameInts.mono _ _ _)
      | (with_reducible exact laws_sameParts.mono _ _ _)
      | (with_reducible exact spec_DrawPartText.mono _ _)
      | (with_reducible exact spec_DrawPartsOf.mono _ _)
      | (with_reducible exact spec_DrawPutNums.mono _ _)
      | (with_reducible exact spec_DrawTakeNums.mono _ _)
      | (with_reducible exact spec_PartText.mono _ _ _ _)
      | (with_reducible exact spec_PartsOf.mono _ _ _)
      | (with_reducible exact spec_PutNums.mono _ _)
      | (with_reducible exact spec_TakeNums.mono _ _)
      | (with_reducible exact LeO.refl _)
      | (with_reducible exact LeO.none _)
      | (with_reducible refine LeO.ite ?_ ?_)
      | (with_reducible refine LeO.bind ?_ (fun _ => ?_))
      | exact ih0 _ _ _ _ _
      | exact ih1 _
      | exact ih2 _ _ _ _
      | exact ih3 _ _ _ _ _
      | exact ih4 _ _ _ _ _ _
      | exact ih5 _ _
      | exact impl_GoodPart.mono _ _ _ _
      | exact impl_PartText.mono _ _ _ _
      | exact impl_PartsOf.mono _ _ _
      | exact impl_PutNums.mono _ _
      | exact impl_TakeNums.mono _ _
      | exact laws_sameInts.mono _ _ _
      | exact laws_sameParts.mono _ _ _
      | exact spec_DrawPartText.mono _ _
      | exact spec_DrawPartsOf.mono _ _
      | exact spec_DrawPutNums.mono _ _
      | exact spec_DrawTakeNums.mono _ _
      | exact spec_PartText.mono _ _ _ _
      | exact spec_PartsOf.mono _ _ _
      | exact spec_PutNums.mono _ _
      | exact spec_TakeNums.mono _ _
      | exact LeO.none _
      | refine LeO.ite ?_ ?_
      | refine LeO.bind ?_ (fun _ => ?_)
    · intro y0 y1 y2 y3 y4 y5
      unfold laws_FnNums.j5
      repeat' first
      | (with_reducible exact ih0 _ _ _ _ _)
      | (with_reducible exact ih1 _)
      | (with_reducible exact ih2 _ _ _ _)
      | (with_reducible exact ih3 _ _ _ _ _)
      | (with_reducible exact ih4 _ _ _ _ _ _)
      | (with_reducible exact ih5 _ _)
      | (with_reducible exact impl_GoodPart.mono _ _ _ _)
      | (with_reducible exact impl_PartText.mono _ _ _ _)
      | (with_reducible exact impl_PartsOf.mono _ _ _)
      | (with_reducible exact impl_PutNums.mono _ _)
      | (with_reducible exact impl_TakeNums.mono _ _)
      | (with_reducible exact laws_sameInts.mono _ _ _)
      | (with_reducible exact laws_sameParts.mono _ _ _)
      | (with_reducible exact spec_DrawPartText.mono _ _)
      | (with_reducible exact spec_DrawPartsOf.mono _ _)
      | (with_reducible exact spec_DrawPutNums.mono _ _)
      | (with_reducible exact spec_DrawTakeNums.mono _ _)
      | (with_reducible exact spec_PartText.mono _ _ _ _)
      | (with_reducible exact spec_PartsOf.mono _ _ _)
      | (with_reducible exact spec_PutNums.mono _ _)
      | (with_reducible exact spec_TakeNums.mono _ _)
      | (with_reducible exact LeO.refl _)
      | (with_reducible exact LeO.none _)
      | (with_reducible refine LeO.ite ?_ ?_)
      | (with_reducible refine LeO.bind ?_ (fun _ => ?_))
      | exact ih0 _ _ _ _ _
      | exact ih1 _
      | exact ih2 _ _ _ _
      | exact ih3 _ _ _ _ _
      | exact ih4 _ _ _ _ _ _
      | exact ih5 _ _
      | exact impl_GoodPart.mono _ _ _ _
      | exact impl_PartText.mono _ _ _ _
      | exact impl_PartsOf.mono _ _ _
      | exact impl_PutNums.mono _ _
      | exact impl_TakeNums.mono _ _
      | exact laws_sameInts.mono _ _ _
      | exact laws_sameParts.mono _ _ _
      | exact spec_DrawPartText.mono _ _
      | exact spec_DrawPartsOf.mono _ _
      | exact spec_DrawPutNums.mono _ _
      | exact spec_DrawTakeNums.mono _ _
      | exact spec_PartText.mono _ _ _ _
      | exact spec_PartsOf.mono _ _ _
      | exact spec_PutNums.mono _ _
      | exact spec_TakeNums.mono _ _
      | exact LeO.none _
      | refine LeO.ite ?_ ?_
      | refine LeO.bind ?_ (fun _ => ?_)
    · intro y0 y1
      unfold laws_FnNums.j1
      repeat' first
      | (with_reducible exact ih0 _ _ _ _ _)
      | (with_reducible exact ih1 _)
      | (with_reducible exact ih2 _ _ _ _)
      | (with_reducible exact ih3 _ _ _ _ _)
      | (with_reducible exact ih4 _ _ _ _ _ _)
      | (with_reducible exact ih5 _ _)
      | (with_reducible exact impl_GoodPart.mono _ _ _ _)
      | (with_reducible exact impl_PartText.mono _ _ _ _)
      | (with_reducible exact impl_PartsOf.mono _ _ _)
      | (with_reducible exact impl_PutNums.mono _ _)
      | (with_reducible exact impl_TakeNums.mono _ _)
      | (with_reducible exact laws_sameInts.mono _ _ _)
      | (with_reducible exact laws_sameParts.mono _ _ _)
      | (with_reducible exact spec_DrawPartText.mono _ _)
      | (with_reducible exact spec_DrawPartsOf.mono _ _)
      | (with_reducible exact spec_DrawPutNums.mono _ _)
      | (with_reducible exact spec_DrawTakeNums.mono _ _)
      | (with_reducible exact spec_PartText.mono _ _ _ _)
      | (with_reducible exact spec_PartsOf.mono _ _ _)
      | (with_reducible exact spec_PutNums.mono _ _)
      | (with_reducible exact spec_TakeNums.mono _ _)
      | (with_reducible exact LeO.refl _)
      | (with_reducible exact LeO.none _)
      | (with_reducible refine LeO.ite ?_ ?_)
      | (with_reducible refine LeO.bind ?_ (fun _ => ?_))
      | exact ih0 _ _ _ _ _
      | exact ih1 _
      | exact ih2 _ _ _ _
      | exact ih3 _ _ _ _ _
      | exact ih4 _ _ _ _ _ _
      | exact ih5 _ _
      | exact impl_GoodPart.mono _ _ _ _
      | exact impl_PartText.mono _ _ _ _
      | exact impl_PartsOf.mono _ _ _
      | exact impl_PutNums.mono _ _
      | exact impl_TakeNums.mono _ _
      | exact laws_sameInts.mono _ _ _
      | exact laws_sameParts.mono _ _ _
      | exact spec_DrawPartText.mono _ _
      | exact spec_DrawPartsOf.mono _ _
      | exact spec_DrawPutNums.mono _ _
      | exact spec_DrawTakeNums.mono _ _
      | exact spec_PartText.mono _ _ _ _
      | exact spec_PartsOf.mono _ _ _
      | exact spec_PutNums.mono _ _
      | exact spec_TakeNums.mono _ _
      | exact LeO.none _
      | refine LeO.ite ?_ ?_
      | refine LeO.bind ?_ (fun _ => ?_)
theorem laws_FnNums.mono : ∀ a0 a1 k, LeO (laws_FnNums.f k a0 a1) (laws_FnNums.f (k + 1) a0 a1) := by
  intro a0 a1 k
  obtain ⟨ih0, ih1, ih2, ih3, ih4, ih5⟩ := laws_FnNums.mono_l k
  unfold laws_FnNums.f
  repeat' first
      | (with_reducible exact ih0 _ _ _ _ _)
      | (with_reducible exact ih1 _)
      | (with_reducible exact ih2 _ _ _ _)
      | (with_reducible exact ih3 _ _ _ _ _)
      | (with_reducible exact ih4 _ _ _ _ _ _)
      | (with_reducible exact ih5 _ _)
      | (with_reducible exact impl_GoodPart.mono _ _ _ _)
      | (with_reducible exact impl_PartText.mono _ _ _ _)
      | (with_reducible exact impl_PartsOf.mono _ _ _)
      | (with_reducible exact impl_PutNums.mono _ _)
      | (with_reducible exact impl_TakeNums.mono _ _)
      | (with_reducible exact laws_sameInts.mono _ _ _)
      | (with_reducible exact laws_sameParts.mono _ _ _)
      | (with_reducible exact spec_DrawPartText.mono _ _)
      | (with_reducible exact spec_DrawPartsOf.mono _ _)
      | (with_reducible exact spec_DrawPutNums.mono _ _)
      | (with_reducible exact spec_DrawTakeNums.mono _ _)
      | (with_reducible exact spec_PartText.mono _ _ _ _)
      | (with_reducible exact spec_PartsOf.mono _ _ _)
      | (with_reducible exact spec_PutNums.mono _ _)
      | (with_reducible exact spec_TakeNums.mono _ _)
      | (with_reducible exact LeO.refl _)
      | (with_reducible exact LeO.none _)
      | (with_reducible refine LeO.ite ?_ ?_)
      | (with_reducible refine LeO.bind ?_ (fun _ => ?_))
      | exact ih0 _ _ _ _ _
      | exact ih1 _
      | exact ih2 _ _ _ _
      | exact ih3 _ _ _ _ _
      | exact ih4 _ _ _ _ _ _
      | exact ih5 _ _
      | exact impl_GoodPart.mono _ _ _ _
      | exact impl_PartText.mono _ _ _ _
      | exact impl_PartsOf.mono _ _ _
      | exact impl_PutNums.mono _ _
      | exact impl_TakeNums.mono _ _
      | exact laws_sameInts.mono _ _ _
      | exact laws_sameParts.mono _ _ _
      | exact spec_DrawPartText.mono _ _
      | exact spec_DrawPartsOf.mono _ _
      | exact spec_DrawPutNums.mono _ _
      | exact spec_DrawTakeNums.mono _ _
      | exact spec_PartText.mono _ _ _ _
      | exact spec_PartsOf.mono _ _ _
      | exact spec_PutNums.mono _ _
      | exact spec_TakeNums.mono _ _
      | exact LeO.none _
      | refine LeO.ite ?_ ?_
      | refine LeO.bind ?_ (fun _ => ?_)
set_option maxHeartbeats 8000000 in
set_option maxRecDepth 100000 in
theorem laws_FnNums.calls (k : Nat) (A0 : Option Addr) (c0 : Nat) (l0 : List Int) (A1 : Option Addr) (c1 : Nat) (l1 : List Int) (r : Bool) (w : World) (hr0 : Kd.C (Kd.int .u8) w A0 l0.length l0) (hc0 : l0.length ≤ c0) (hr1 : Kd.C (Kd.int .u8) w A1 l1.length l1) (hc1 : l1.length ≤ c1) (h : laws_FnNums.f k l0 l1 = some r) :
    Calls Try.prog 11 #[.slice A0 l0.length c0, .slice A1 l1.length c1] w fun e w' => e = .returned (.bool r) ∧ Below w.heap.size w w' := by
  have hu38 := Try.underlying38
  have HR0 := Aside0.mk hr0
  have HC0 := Aside0.mk hc0
  clear hr0 hc0
  have HR1 := Aside0.mk hr1
  have HC1 := Aside0.mk hc1
  clear hr1 hc1
  have HB := Aside0.mk (Below.refl w.heap.size w)
  have H : (if (wrap64 ((l0.length : Int) + (l1.length : Int))) > 1048576 then (some true) else ((spec_DrawPutNums.f k l0).bind fun t387 => ((impl_PutNums.f k t387).bind fun bt390 => ((spec_PutNums.f k t387).bind fun bt392 => (if (bt390.2 != bt392.2) = true then (none) else (laws_FnNums.j0 k l1 t387 bt390.1 bt390.2 (bt390.1.toList != bt392.1.toList))))))) = some r := h
  clear h
  by_cases c3 : (wrap64 ((l0.length : Int) + (l1.length : Int))) > 1048576
  · rw [if_pos c3] at H
    have c3b0 : decide (1048576 < (wrap64 ((l0.length : Int) + (l1.length : Int)))) = true := decide_eq_true c3
    clear c3
    as_aux_lemma =>
      obtain rfl := Option.some.inj H
      go_enter Try.func11, Try.ntmps11
      go_wp2
      go_ret
      exact ⟨by first | rfl | (simp [errW_none, errW_some] <;> rfl) | (simp [*, errW_none, errW_some] <;> rfl), by repeat (first | (with_reducible first | exact HB.out | apply below_alloc | apply pw_below_drewN | apply below_drew1) | exact HB.out)⟩
  · rw [if_neg c3] at H
    have c3b0 : decide (1048576 < (wrap64 ((l0.length : Int) + (l1.length : Int)))) = false := decide_eq_false c3
    clear c3
    replace H := Option.bind_eq_some_iff.mp H
    obtain ⟨t387, A40, H⟩ := H
    replace H : ((impl_PutNums.f k t387).bind fun bt390 => ((spec_PutNums.f k t387).bind fun bt392 => (if (bt390.2 != bt392.2) = true then (none) else (laws_FnNums.j0 k l1 t387 bt390.1 bt390.2 (bt390.1.toList != bt392.1.toList))))) = some r := H
    have A4 := Aside0.mk A40
    clear A40
    replace H := Option.bind_eq_some_iff.mp H
    obtain ⟨⟨t390, t391⟩, A50, H⟩ := H
    replace H : ((spec_PutNums.f k t387).bind fun bt392 => (if (t391 != bt392.2) = true then (none) else (laws_FnNums.j0 k l1 t387 t390 t391 (t390.toList != bt392.1.toList)))) = some r := H
    have A5 := Aside0.mk A50
    clear A50
    replace H := Option.bind_eq_some_iff.mp H
    obtain ⟨⟨t392, t393⟩, A60, H⟩ := H
    replace H : (if (t391 != t393) = true then (none) else (laws_FnNums.j0 k l1 t387 t390 t391 (t390.toList != t392.toList))) = some r := H
    have A6 := Aside0.mk A60
    clear A60
    have HC7 := Aside0.mk H
    clear H
    go_enter Try.func11, Try.ntmps11
    go_upto_region 6 with (first | ((with_reducible refine gate_callee (f := 41) rfl ?_); refine goesL_ (some 41) rfl rfl Try.func41 (by kernel_rfl) rfl #[.slice A0 l0.length c0] rfl (by (try simp only [List.map_toArray, List.map_cons, List.map_nil]); first | done | rfl | (simp only [List.length_drop, List.length_take]; rfl)) ?_; (with_reducible refine (spec_DrawPutNums.calls k _ _ l0 t387 _ ?side1 ?side2 A4.out).mono ?_); (case side1 => repeat (first | exact HR0.out | (with_reducible refine Kd.C_alloc ?_ _) | (with_reducible refine Kd.C_drewN ?_ _) | (with_reducible refine Kd.C_drew ?_))); (case side2 => exact HC0.out); rintro e w8 ⟨v388, rfl, ho0, hb⟩; refine ⟨_, rfl, ?_⟩; have n0_ := Aside0.mk (Kd.R_lower ho0 (below_size (by repeat (first | (with_reducible first | exact HB.out | apply below_alloc | apply pw_below_drewN | apply below_drew1) | exact HB.out)))); have n1_ := Aside0.mk (below_step (by repeat (first | (with_reducible first | exact HB.out | apply below_alloc | apply pw_below_drewN | apply below_drew1) | exact HB.out)) hb); clear HB; have HO389 := n0_; have HB := n1_; clear n0_ n1_; (try clear hb); (try clear hb2); (try clear hk); (try clear hi); (try clear ho0); obtain ⟨Ao9, co9, eo9⟩ := Kd.R_slice HO389.out; subst eo9) | ((with_reducible refine gate_callee (f := 22) rfl ?_); refine goesL_ (some 44) rfl rfl Try.func22 (by kernel_rfl) rfl #[.slice Ao9 t387.length co9] rfl (by (try simp only [List.map_toArray, List.map_cons, List.map_nil]); first | done | rfl | (simp only [List.length_drop, List.length_take]; rfl)) ?_; (with_reducible refine (impl_PutNums.calls k _ _ t387 t390 t391 _ ?side1 ?side2 A5.out).mono ?_); (case side1 => repeat (first | exact (Kd.R_reads' HO389.out).2.2 | (with_reducible refine Kd.C_alloc ?_ _) | (with_reducible refine Kd.C_drewN ?_ _) | (with_reducible refine Kd.C_drew ?_))); (case side2 => exact (Kd.R_reads' HO389.out).2.1); rintro e w10 ⟨rfl, hb⟩; refine ⟨_, rfl, ?_⟩; have n0_ := Aside0.mk (Kd.R_below (by (with_reducible repeat (first | apply Kd.R_alloc | apply Kd.R_drewN | apply Kd.R_drew)); exact HO389.out) hb); have n1_ := Aside0.mk (below_step (by repeat (first | (with_reducible first | exact HB.out | apply below_alloc | apply pw_below_drewN | apply below_drew1) | exact HB.out)) hb); clear HO389; clear HB; have HO389 := n0_; have HB := n1_; clear n0_ n1_; (try clear hb); (try clear hb2); (try clear hk); (try clear hi)) | ((with_reducible refine gate_callee (f := 20) rfl ?_); refine goesL_ (some 49) rfl rfl Try.func20 (by kernel_rfl) rfl #[.slice Ao9 t387.length co9] rfl (by (try simp only [List.map_toArray, List.map_cons, List.map_nil]); first | done | rfl | (simp only [List.length_drop, List.length_take]; rfl)) ?_; (with_reducible refine (spec_PutNums.calls k _ _ t387 t392 t393 _ ?side1 ?side2 A6.out).mono ?_); (case side1 => repeat (first | exact (Kd.R_reads' HO389.out).2.2 | (with_reducible refine Kd.C_alloc ?_ _) | (with_reducible refine Kd.C_drewN ?_ _) | (with_reducible refine Kd.C_drew ?_))); (case side2 => exact (Kd.R_reads' HO389.out).2.1); rintro e w11 ⟨rfl, hb⟩; refine ⟨_, rfl, ?_⟩; have n0_ := Aside0.mk (Kd.R_below (by (with_reducible repeat (first | apply Kd.R_alloc | apply Kd.R_drewN | apply Kd.R_drew)); exact HO389.out) hb); have n1_ := Aside0.mk (below_step (by repeat (first | (with_reducible first | exact HB.out | apply below_alloc | apply pw_below_drewN | apply below_drew1) | exact HB.out)) hb); clear HO389; clear HB; have HO389 := n0_; have HB := n1_; clear n0_ n1_; (try clear hb); (try clear hb2); (try clear hk); (try clear hi)))
    (try simp only [Act.put, List.setIfInBounds_toArray, List.set_cons_zero, List.set_cons_succ])
    go_cut [59] (fun v59 wc => ∃ (kq : Nat) (x59_6 : Bool), v59 = .bool x59_6 ∧ Aside0 (laws_FnNums.j0 kq l1 t387 t390 t391 x59_6 = some r) ∧ Aside0 (kq ≤ k) ∧ Aside0 (Kd.R (Kd.int .i64) 3 wc w.heap.size (fun _ => True) (.slice Ao9 t387.length co9) t387) ∧ Aside0 (Below w.heap.size w wc))
    case first =>
      have H := HC7.out
      clear HC7
      by_cases c12 : (t391 != t393) = true
      · rw [if_pos c12] at H
        exact absurd H (by simp)
      · rw [if_neg c12] at H
        have c12b0 : (t391 != t393) = false := by simpa using c12
        (try (have c12b1 : decide (t391 = t393) = true := by simpa using c12))
        (try (have c12b2 : (t391 == t393) = true := by simpa using c12))
        clear c12
        (first | rw [c12b0] | (simp only [i64_w, i32_w]; rw [c12b0]) | skip)
        as_aux_lemma =>
          have H' := Aside0.mk H
          clear H
          go_wp2
          go_meet
          case rel => exact ⟨_, ((t390.toList != t392.toList)), (by first | rfl | (simp; done) | (simp [*]; done)), H', ⟨by first | omega | exact Nat.le_refl _⟩, ⟨by (with_reducible repeat (first | apply Kd.R_alloc | apply Kd.R_drewN | apply Kd.R_drew)); exact HO389.out⟩, ⟨by repeat (first | (with_reducible first | exact HB.out | apply below_alloc | apply pw_below_drewN | apply below_drew1) | exact HB.out)⟩⟩
    case rest =>
      clear HC7
      try clear c1
      try clear c2
      try clear p2
      try clear c3
      try clear c3b0
      try clear c4
      try clear p6
      try clear c11
      try clear c12
      try clear c12b0
      try clear c12b1
      try clear c12b2
      obtain ⟨kq, x59_6, rfl, HA, HJ6, HO_5, HB⟩ := hcut
      cases kq with
      | zero => exact absurd HA.out (by simp [laws_FnNums.j0])
      | succ kj6 =>
        have H := HA.out
        clear HA
        simp only [laws_FnNums.j0] at H
        by_cases c13 : x59_6 = true
        · subst c13
          have H1 : (none) = some r := by rw [if_pos rfl] at H; exact H
          clear H
          have H := H1
          clear H1
          exact absurd H (by simp)
        · replace c13 := Bool.eq_false_iff.mpr c13
          subst c13
          have H1 : (if t391 = true then ((impl_TakeNums.f kj6 t390).bind fun bt394 => (if bt394.2 = true then ((laws_sameInts.f kj6 bt394.1 t387).bind fun t398 => (if t398 = true then (laws_FnNums.j1 kj6 l1 ((t390.size : Int) != (wrap64 (2 * (t387.length : Int))))) else (none))) else (none))) else (laws_FnNums.j2 kj6 l1)) = some r := by rw [if_neg (show ¬ (false = true) by decide)] at H; exact H
          clear H
          have H := H1
          clear H1
          have HC14 := Aside0.mk H
          clear H
          go_upto_if 60 with (fail)
          go_cut [] (fun wc => ∃ (kq : Nat), Aside0 (laws_FnNums.j2 kq l1 = some r) ∧ Aside0 (kq ≤ kj6) ∧ Aside0 (Below w.heap.size w wc))
          case first =>
            have H := HC14.out
            clear HC14
            by_cases c15 : t391 = true
            · subst c15
              have H1 : ((impl_TakeNums.f kj6 t390).bind fun bt394 => (if bt394.2 = true then ((laws_sameInts.f kj6 bt394.1 t387).bind fun t398 => (if t398 = true then (laws_FnNums.j1 kj6 l1 ((t390.size : Int) != (wrap64 (2 * (t387.length : Int))))) else (none))) else (none))) = some r := by rw [if_pos rfl] at H; exact H
              clear H
              have H := H1
              clear H1
              replace H := Option.bind_eq_some_iff.mp H
              obtain ⟨⟨t394, t395⟩, A160, H⟩ := H
              replace H : (if t395 = true then ((laws_sameInts.f kj6 t394 t387).bind fun t398 => (if t398 = true then (laws_FnNums.j1 kj6 l1 ((t390.size : Int) != (wrap64 (2 * (t387.length : Int))))) else (none))) else (none)) = some r := H
              have A16 := Aside0.mk A160
              clear A160
              have HC17 := Aside0.mk H
              clear H
              go_upto_region 10 with (first | ((with_reducible refine gate_callee (f := 16) rfl ?_); refine goesL_ (some 63) rfl rfl Try.func16 (by kernel_rfl) rfl #[.string t390] rfl (by (try simp only [List.map_toArray, List.map_cons, List.map_nil]); first | done | rfl | (simp only [List.length_drop, List.length_take]; rfl)) ?_; (with_reducible refine (impl_TakeNums.calls kj6 t390 t394 t395 _ A16.out).mono ?_); rintro e w18 ⟨v396, rfl, ho0, hb⟩; refine ⟨_, rfl, ?_⟩; have n0_ := Aside0.mk (Kd.R_elder' (by (with_reducible repeat (first | apply Kd.R_alloc | apply Kd.R_drewN | apply Kd.R_drew)); exact HO_5.out) (Kd.R_base ho0) hb); have n1_ := Aside0.mk (Kd.R_lower (Kd.R_new' ho0 (Kd.R_lt (by (with_reducible repeat (first | apply Kd.R_alloc | apply Kd.R_drewN | apply Kd.R_drew)); exact HO_5.out))) (below_size (by repeat (first | (with_reducible first | exact HB.out | apply below_alloc | apply pw_below_drewN | apply below_drew1) | exact HB.out)))); have n2_ := Aside0.mk (below_step (by repeat (first | (with_reducible first | exact HB.out | apply below_alloc | apply pw_below_drewN | apply below_drew1) | exact HB.out)) hb); clear HO_5; clear HB; have HO_5 := n0_; have HO397 := n1_; have HB := n2_; clear n0_ n1_ n2_; (try clear hb); (try clear hb2); (try clear hk); (try clear hi); (try clear ho0)))
              (try simp only [Act.put, List.setIfInBounds_toArray, List.set_cons_zero, List.set_cons_succ])
              go_cut [81] (fun v81 wc => ∃ (kq : Nat) (x81_16 : Bool), v81 = .bool x81_16 ∧ Aside0 (laws_FnNums.j1 kq l1 x81_16 = some r) ∧ Aside0 (kq ≤ kj6) ∧ Aside0 (Below w.heap.size w wc))
              case first =>
                have H := HC17.out
                clear HC17
                by_cases c19 : t395 = true
                · subst c19
                  have H1 : ((laws_sameInts.f kj6 t394 t387).bind fun t398 => (if t398 = true then (laws_FnNums.j1 kj6 l1 ((t390.size : Int) != (wrap64 (2 * (t387.length : Int))))) else (none))) = some r := by rw [if_pos rfl] at H; exact H
                  clear H
                  have H := H1
                  clear H1
                  replace H := Option.bind_eq_some_iff.mp H
                  obtain ⟨t398, A200, H⟩ := H
                  replace H : (if t398 = true then (laws_FnNums.j1 kj6 l1 ((t390.size : Int) != (wrap64 (2 * (t387.length : Int))))) else (none)) = some r := H
                  have A20 := Aside0.mk A200
                  clear A200
                  by_cases c21 : t398 = true
                  · subst c21
                    have H1 : (laws_FnNums.j1 kj6 l1 ((t390.size : Int) != (wrap64 (2 * (t387.length : Int))))) = some r := by rw [if_pos rfl] at H; exact H
                    clear H
                    have H := H1
                    clear H1
                    as_aux_lemma =>
                      have H' := Aside0.mk H
                      clear H
                      obtain ⟨Ao22, co22, eo22⟩ := Kd.R_slice HO397.out
                      subst eo22
                      go_wp2_with (first | (go_at_call 42; (with_reducible refine (laws_sameInts.calls kj6 _ _ t394 _ _ t387 true _ ?side1 ?side2 ?side3 ?side4 A20.out).mono ?_); (case side1 => repeat (first | exact (Kd.R_reads' HO397.out).2.2 | (with_reducible refine Kd.C_alloc ?_ _) | (with_reducible refine Kd.C_drewN ?_ _) | (with_reducible refine Kd.C_drew ?_))); (case side2 => exact (Kd.R_reads' HO397.out).2.1); (case side3 => repeat (first | exact (Kd.R_reads' HO_5.out).2.2 | (with_reducible refine Kd.C_alloc ?_ _) | (with_reducible refine Kd.C_drewN ?_ _) | (with_reducible refine Kd.C_drew ?_))); (case side4 => exact (Kd.R_reads' HO_5.out).2.1); rintro e w' ⟨rfl, ⟨nd, rfl⟩⟩))
                      go_meet
                      case rel => exact ⟨_, (((t390.size : Int) != (wrap64 (2 * (t387.length : Int))))), (by first | rfl | (simp; done) | (simp [*]; done)), H', ⟨by have := HJ6.out; first | omega | exact Nat.le_refl _⟩, ⟨by repeat (first | (with_reducible first | exact HB.out | apply below_alloc | apply pw_below_drewN | apply below_drew1) | exact HB.out)⟩⟩
                  · replace c21 := Bool.eq_false_iff.mpr c21
                    subst c21
                    have H1 : (none) = some r := by rw [if_neg (show ¬ (false = true) by decide)] at H; exact H
                    clear H
                    have H := H1
                    clear H1
                    exact absurd H (by simp)
                · replace c19 := Bool.eq_false_iff.mpr c19
                  subst c19
                  have H1 : (none) = some r := by rw [if_neg (show ¬ (false = true) by decide)] at H; exact H
                  clear H
                  have H := H1
                  clear H1
                  exact absurd H (by simp)
              case rest =>
                clear HC17
                try clear c1
                try clear c2
                try clear p2
                try clear c3
                try clear c3b0
                try clear c4
                try clear p6
                try clear c11
                try clear c12
                try clear c12b0
                try clear c12b1
                try clear c12b2
                try clear c13
                try clear c15
                try clear c16
                try clear c19
                try clear c20
                try clear c21
                try clear c22
                try clear p2
                try clear p6
                obtain ⟨kq, x81_16, rfl, HA, HJ16, HB⟩ := hcut
                cases kq with
                | zero => exact absurd HA.out (by simp [laws_FnNums.j1])
                | succ kj16 =>
                  have H := HA.out
                  clear HA
                  simp only [laws_FnNums.j1] at H
                  by_cases c23 : x81_16 = true
                  · subst c23
                    have H1 : (none) = some r := by rw [if_pos rfl] at H; exact H
                    clear H
                    have H := H1
                    clear H1
                    exact absurd H (by simp)
                  · replace c23 := Bool.eq_false_iff.mpr c23
                    subst c23
                    have H1 : (laws_FnNums.j2 kj16 l1) = some r := by rw [if_neg (show ¬ (false = true) by decide)] at H; exact H
                    clear H
                    have H := H1
                    clear H1
                    as_aux_lemma =>
                      have H' := Aside0.mk H
                      clear H
                      go_wp2
                      go_meet
                      case rel => exact ⟨_, H', ⟨by have := HJ6.out; have := HJ16.out; first | omega | exact Nat.le_refl _⟩, ⟨by repeat (first | (with_reducible first | exact HB.out | apply below_alloc | apply pw_below_drewN | apply below_drew1) | exact HB.out)⟩⟩
            · replace c15 := Bool.eq_false_iff.mpr c15
              subst c15
              have H1 : (laws_FnNums.j2 kj6 l1) = some r := by rw [if_neg (show ¬ (false = true) by decide)] at H; exact H
              clear H
              have H := H1
              clear H1
              as_aux_lemma =>
                have H' := Aside0.mk H
                clear H
                go_wp2
                go_meet
                case rel => exact ⟨_, H', ⟨by have := HJ6.out; first | omega | exact Nat.le_refl _⟩, ⟨by repeat (first | (with_reducible first | exact HB.out | apply below_alloc | apply pw_below_drewN | apply below_drew1) | exact HB.out)⟩⟩
          case rest =>
            clear HC14
            try clear c1
            try clear c2
            try clear p2
            try clear c3
            try clear c3b0
            try clear c4
            try clear p6
            try clear c11
            try clear c12
            try clear c12b0
            try clear c12b1
            try clear c12b2
            try clear c13
            try clear c15
            try clear c16
            try clear c19
            try clear c20
            try clear c21
            try clear c22
            try clear c23
            try clear p2
            try clear p6
            obtain ⟨kq, HA, HJ13, HB⟩ := hcut
            cases kq with
            | zero => exact absurd HA.out (by simp [laws_FnNums.j2])
            | succ kj13 =>
              have H := HA.out
              clear HA
              simp only [laws_FnNums.j2] at H
              replace H := Option.bind_eq_some_iff.mp H
              obtain ⟨t399, A240, H⟩ := H
              replace H : ((impl_TakeNums.f kj13 t399).bind fun bt400 => ((spec_TakeNums.f kj13 t399).bind fun bt404 => ((spec_DrawPartsOf.f kj13 l1).bind fun bt408 => ((impl_PartsOf.f kj13 bt408.1 bt408.2).bind fun bt412 => ((spec_PartsOf.f kj13 bt408.1 bt408.2).bind fun bt416 => (if (bt400.2 != bt404.2) = true then (none) else ((laws_sameInts.f kj13 bt400.1 bt404.1).bind fun t420 => (if t420 = true then (if (bt412.2 != bt416.2) = true then (none) else ((laws_sameParts.f kj13 bt412.1 bt416.1).bind fun t421 => (laws_FnNums.j3 kj13 l1 bt408.2 bt412.1 (!t421)))) else (none))))))))) = some r := H
              have A24 := Aside0.mk A240
              clear A240
              replace H := Option.bind_eq_some_iff.mp H
              obtain ⟨⟨t400, t401⟩, A250, H⟩ := H
              replace H : ((spec_TakeNums.f kj13 t399).bind fun bt404 => ((spec_DrawPartsOf.f kj13 l1).bind fun bt408 => ((impl_PartsOf.f kj13 bt408.1 bt408.2).bind fun bt412 => ((spec_PartsOf.f kj13 bt408.1 bt408.2).bind fun bt416 => (if (t401 != bt404.2) = true then (none) else ((laws_sameInts.f kj13 t400 bt404.1).bind fun t420 => (if t420 = true then (if (bt412.2 != bt416.2) = true then (none) else ((laws_sameParts.f kj13 bt412.1 bt416.1).bind fun t421 => (laws_FnNums.j3 kj13 l1 bt408.2 bt412.1 (!t421)))) else (none)))))))) = some r := H
              have A25 := Aside0.mk A250
              clear A250
              replace H := Option.bind_eq_some_iff.mp H
              obtain ⟨⟨t404, t405⟩, A260, H⟩ := H
              replace H : ((spec_DrawPartsOf.f kj13 l1).bind fun bt408 => ((impl_PartsOf.f kj13 bt408.1 bt408.2).bind fun bt412 => ((spec_PartsOf.f kj13 bt408.1 bt408.2).bind fun bt416 => (if (t401 != t405) = true then (none) else ((laws_sameInts.f kj13 t400 t404).bind fun t420 => (if t420 = true then (if (bt412.2 != bt416.2) = true then (none) else ((laws_sameParts.f kj13 bt412.1 bt416.1).bind fun t421 => (laws_FnNums.j3 kj13 l1 bt408.2 bt412.1 (!t421)))) else (none))))))) = some r := H
              have A26 := Aside0.mk A260
              clear A260
              replace H := Option.bind_eq_some_iff.mp H
              obtain ⟨⟨t408, t409⟩, A270, H⟩ := H
              replace H : ((impl_PartsOf.f kj13 t408 t409).bind fun bt412 => ((spec_PartsOf.f kj13 t408 t409).bind fun bt416 => (if (t401 != t405) = true then (none) else ((laws_sameInts.f kj13 t400 t404).bind fun t420 => (if t420 = true then (if (bt412.2 != bt416.2) = true then (none) else ((laws_sameParts.f kj13 bt412.1 bt416.1).bind fun t421 => (laws_FnNums.j3 kj13 l1 t409 bt412.1 (!t421)))) else (none)))))) = some r := H
              have A27 := Aside0.mk A270
              clear A270
              replace H := Option.bind_eq_some_iff.mp H
              obtain ⟨⟨t412, t413⟩, A280, H⟩ := H
              replace H : ((spec_PartsOf.f kj13 t408 t409).bind fun bt416 => (if (t401 != t405) = true then (none) else ((laws_sameInts.f kj13 t400 t404).bind fun t420 => (if t420 = true then (if (t413 != bt416.2) = true then (none) else ((laws_sameParts.f kj13 t412 bt416.1).bind fun t421 => (laws_FnNums.j3 kj13 l1 t409 t412 (!t421)))) else (none))))) = some r := H
              have A28 := Aside0.mk A280
              clear A280
              replace H := Option.bind_eq_some_iff.mp H
              obtain ⟨⟨t416, t417⟩, A290, H⟩ := H
              replace H : (if (t401 != t405) = true then (none) else ((laws_sameInts.f kj13 t400 t404).bind fun t420 => (if t420 = true then (if (t413 != t417) = true then (none) else ((laws_sameParts.f kj13 t412 t416).bind fun t421 => (laws_FnNums.j3 kj13 l1 t409 t412 (!t421)))) else (none)))) = some r := H
              have A29 := Aside0.mk A290
              clear A290
              have HC30 := Aside0.mk H
              clear H
              go_upto_region 18 with (first | ((with_reducible refine gate_callee (f := 43) rfl ?_); refine goesL_ (some 83) rfl rfl Try.func43 (by kernel_rfl) rfl #[.slice A1 l1.length c1] rfl (by (try simp only [List.map_toArray, List.map_cons, List.map_nil]); first | done | rfl | (simp only [List.length_drop, List.length_take]; rfl)) ?_; (with_reducible refine (spec_DrawTakeNums.calls kj13 _ _ l1 t399 _ ?side1 ?side2 A24.out).mono ?_); (case side1 => repeat (first | exact (Kd.C_below HR1.out HB.out) | (with_reducible refine Kd.C_alloc ?_ _) | (with_reducible refine Kd.C_drewN ?_ _) | (with_reducible refine Kd.C_drew ?_))); (case side2 => exact HC1.out); rintro e w31 ⟨rfl, hb⟩; refine ⟨_, rfl, ?_⟩; have n0_ := Aside0.mk (below_step (by repeat (first | (with_reducible first | exact HB.out | apply below_alloc | apply pw_below_drewN | apply below_drew1) | exact HB.out)) hb); clear HB; have HB := n0_; clear n0_; (try clear hb); (try clear hb2); (try clear hk); (try clear hi)) | ((with_reducible refine gate_callee (f := 16) rfl ?_); refine goesL_ (some 86) rfl rfl Try.func16 (by kernel_rfl) rfl #[.string t399] rfl (by (try simp only [List.map_toArray, List.map_cons, List.map_nil]); first | done | rfl | (simp only [List.length_drop, List.length_take]; rfl)) ?_; (with_reducible refine (impl_TakeNums.calls kj13 t399 t400 t401 _ A25.out).mono ?_); rintro e w32 ⟨v402, rfl, ho0, hb⟩; refine ⟨_, rfl, ?_⟩; have n0_ := Aside0.mk (Kd.R_lower ho0 (below_size (by repeat (first | (with_reducible first | exact HB.out | apply below_alloc | apply pw_below_drewN | apply below_drew1) | exact HB.out)))); have n1_ := Aside0.mk (below_step (by repeat (first | (with_reducible first | exact HB.out | apply below_alloc | apply pw_below_drewN | apply below_drew1) | exact HB.out)) hb); clear HB; have HO403 := n0_; have HB := n1_; clear n0_ n1_; (try clear hb); (try clear hb2); (try clear hk); (try clear hi); (try clear ho0)) | ((with_reducible refine gate_callee (f := 15) rfl ?_); refine goesL_ (some 91) rfl rfl Try.func15 (by kernel_rfl) rfl #[.string t399] rfl (by (try simp only [List.map_toArray, List.map_cons, List.map_nil]); first | done | rfl | (simp only [List.length_drop, List.length_take]; rfl)) ?_; (with_reducible refine (spec_TakeNums.calls kj13 t399 t404 t405 _ A26.out).mono ?_); rintro e w33 ⟨v406, rfl, ho0, hb⟩; refine ⟨_, rfl, ?_⟩; have n0_ := Aside0.mk (Kd.R_elder' (by (with_reducible repeat (first | apply Kd.R_alloc | apply Kd.R_drewN | apply Kd.R_drew)); exact HO403.out) (Kd.R_base ho0) hb); have n1_ := Aside0.mk (Kd.R_lower (Kd.R_new' ho0 (Kd.R_lt (by (with_reducible repeat (first | apply Kd.R_alloc | apply Kd.R_drewN | apply Kd.R_drew)); exact HO403.out))) (below_size (by repeat (first | (with_reducible first | exact HB.out | apply below_alloc | apply pw_below_drewN | apply below_drew1) | exact HB.out)))); have n2_ := Aside0.mk (below_step (by repeat (first | (with_reducible first | exact HB.out | apply below_alloc | apply pw_below_drewN | apply below_drew1) | exact HB.out)) hb); clear HO403; clear HB; have HO403 := n0_; have HO407 := n1_; have HB := n2_; clear n0_ n1_ n2_; (try clear hb); (try clear hb2); (try clear hk); (try clear hi); (try clear ho0)) | ((with_reducible refine gate_callee (f := 44) rfl ?_); refine goesL_ (some 96) rfl rfl Try.func44 (by kernel_rfl) rfl #[.slice A1 l1.length c1] rfl (by (try simp only [List.map_toArray, List.map_cons, List.map_nil]); first | done | rfl | (simp only [List.length_drop, List.length_take]; rfl)) ?_; (with_reducible refine (spec_DrawPartsOf.calls kj13 _ _ l1 t408 t409 _ ?side1 ?side2 A27.out).mono ?_); (case side1 => repeat (first | exact (Kd.C_below HR1.out HB.out) | (with_reducible refine Kd.C_alloc ?_ _) | (with_reducible refine Kd.C_drewN ?_ _) | (with_reducible refine Kd.C_drew ?_))); (case side2 => exact HC1.out); rintro e w34 ⟨v410, rfl, ho0, hb⟩; refine ⟨_, rfl, ?_⟩; have n0_ := Aside0.mk (Kd.R_below (by (with_reducible repeat (first | apply Kd.R_alloc | apply Kd.R_drewN | apply Kd.R_drew)); exact HO403.out) hb); have n1_ := Aside0.mk (Kd.R_below (by (with_reducible repeat (first | apply Kd.R_alloc | apply Kd.R_drewN | apply Kd.R_drew)); exact HO407.out) hb); have n2_ := Aside0.mk (Kd.S_lower (Kd.S_new' (Kd.S_new' ho0 (Kd.R_lt (by (with_reducible repeat (first | apply Kd.R_alloc | apply Kd.R_drewN | apply Kd.R_drew)); exact HO403.out))) (Kd.R_lt (by (with_reducible repeat (first | apply Kd.R_alloc | apply Kd.R_drewN | apply Kd.R_drew)); exact HO407.out))) (below_size (by repeat (first | (with_reducible first | exact HB.out | apply below_alloc | apply pw_below_drewN | apply below_drew1) | exact HB.out)))); have n3_ := Aside0.mk (below_step (by repeat (first | (with_reducible first | exact HB.out | apply below_alloc | apply pw_below_drewN | apply below_drew1) | exact HB.out)) hb); clear HO403; clear HO407; clear HB; have HO403 := n0_; have HO407 := n1_; have HO411 := n2_; have HB := n3_; clear n0_ n1_ n2_ n3_; (try clear hb); (try clear hb2); (try clear hk); (try clear hi); (try clear ho0); obtain ⟨Ao35, co35, eo35⟩ := Kd.S_slice HO411.out; subst eo35) | ((with_reducible refine gate_callee (f := 33) rfl ?_); refine goesL_ (some 102) rfl rfl Try.func33 (by kernel_rfl) rfl #[.slice Ao35 t408.length co35, .int .i64 t409] rfl (by (try simp only [List.map_toArray, List.map_cons, List.map_nil]); first | done | rfl | (simp only [List.length_drop, List.length_take]; rfl)) ?_; (with_reducible refine (impl_PartsOf.calls kj13 _ _ t408 t409 t412 t413 _ ?side1 ?side2 A28.out).mono ?_); (case side1 => repeat (first | exact (Kd.S_reads' HO411.out).2.2 | (with_reducible refine Kd.C_alloc ?_ _) | (with_reducible refine Kd.C_drewN ?_ _) | (with_reducible refine Kd.C_drew ?_))); (case side2 => exact (Kd.S_reads' HO411.out).2.1); rintro e w36 ⟨v414, rfl, ho0, hb⟩; refine ⟨_, rfl, ?_⟩; have n0_ := Aside0.mk (Kd.R_below (by (with_reducible repeat (first | apply Kd.R_alloc | apply Kd.R_drewN | apply Kd.R_drew)); exact HO403.out) hb); have n1_ := Aside0.mk (Kd.R_below (by (with_reducible repeat (first | apply Kd.R_alloc | apply Kd.R_drewN | apply Kd.R_drew)); exact HO407.out) hb); have n2_ := Aside0.mk (Kd.S_elder' (by (with_reducible repeat (first | apply Kd.S_alloc | apply Kd.S_drewN | apply Kd.S_drew)); exact HO411.out) (Kd.S_base ho0) hb); have n3_ := Aside0.mk (Kd.S_lower (Kd.S_new' (Kd.S_new' (Kd.S_new' ho0 (Kd.R_lt (by (with_reducible repeat (first | apply Kd.R_alloc | apply Kd.R_drewN | apply Kd.R_drew)); exact HO403.out))) (Kd.R_lt (by (with_reducible repeat (first | apply Kd.R_alloc | apply Kd.R_drewN | apply Kd.R_drew)); exact HO407.out))) (Kd.S_lt (by (with_reducible repeat (first | apply Kd.S_alloc | apply Kd.S_drewN | apply Kd.S_drew)); exact HO411.out))) (below_size (by repeat (first | (with_reducible first | exact HB.out | apply below_alloc | apply pw_below_drewN | apply below_drew1) | exact HB.out)))); have n4_ := Aside0.mk (below_step (by repeat (first | (with_reducible first | exact HB.out | apply below_alloc | apply pw_below_drewN | apply below_drew1) | exact HB.out)) hb); clear HO403; clear HO407; clear HO411; clear HB; have HO403 := n0_; have HO407 := n1_; have HO411 := n2_; have HO415 := n3_; have HB := n4_; clear n0_ n1_ n2_ n3_ n4_; (try clear hb); (try clear hb2); (try clear hk); (try clear hi); (try clear ho0)) | ((with_reducible refine gate_callee (f := 31) rfl ?_); refine goesL_ (some 108) rfl rfl Try.func31 (by kernel_rfl) rfl #[.slice Ao35 t408.length co35, .int .i64 t409] rfl (by (try simp only [List.map_toArray, List.map_cons, List.map_nil]); first | done | rfl | (simp only [List.length_drop, List.length_take]; rfl)) ?_; (with_reducible refine (spec_PartsOf.calls kj13 _ _ t408 t409 t416 t417 _ ?side1 ?side2 A29.out).mono ?_); (case side1 => repeat (first | exact (Kd.S_reads' HO411.out).2.2 | (with_reducible refine Kd.C_alloc ?_ _) | (with_reducible refine Kd.C_drewN ?_ _) | (with_reducible refine Kd.C_drew ?_))); (case side2 => exact (Kd.S_reads' HO411.out).2.1); rintro e w37 ⟨v418, rfl, ho0, hb⟩; refine ⟨_, rfl, ?_⟩; have n0_ := Aside0.mk (Kd.R_below (by (with_reducible repeat (first | apply Kd.R_alloc | apply Kd.R_drewN | apply Kd.R_drew)); exact HO403.out) hb); have n1_ := Aside0.mk (Kd.R_below (by (with_reducible repeat (first | apply Kd.R_alloc | apply Kd.R_drewN | apply Kd.R_drew)); exact HO407.out) hb); have n2_ := Aside0.mk (Kd.S_elder' (by (with_reducible repeat (first | apply Kd.S_alloc | apply Kd.S_drewN | apply Kd.S_drew)); exact HO411.out) (Kd.S_base ho0) hb); have n3_ := Aside0.mk (Kd.S_elder' (by (with_reducible repeat (first | apply Kd.S_alloc | apply Kd.S_drewN | apply Kd.S_drew)); exact HO415.out) (Kd.S_base ho0) hb); have n4_ := Aside0.mk (Kd.S_lower (Kd.S_new' (Kd.S_new' (Kd.S_new' (Kd.S_new' ho0 (Kd.R_lt (by (with_reducible repeat (first | apply Kd.R_alloc | apply Kd.R_drewN | apply Kd.R_drew)); exact HO403.out))) (Kd.R_lt (by (with_reducible repeat (first | apply Kd.R_alloc | apply Kd.R_drewN | apply Kd.R_drew)); exact HO407.out))) (Kd.S_lt (by (with_reducible repeat (first | apply Kd.S_alloc | apply Kd.S_drewN | apply Kd.S_drew)); exact HO411.out))) (Kd.S_lt (by (with_reducible repeat (first | apply Kd.S_alloc | apply Kd.S_drewN | apply Kd.S_drew)); exact HO415.out))) (below_size (by repeat (first | (with_reducible first | exact HB.out | apply below_alloc | apply pw_below_drewN | apply below_drew1) | exact HB.out)))); have n5_ := Aside0.mk (below_step (by repeat (first | (with_reducible first | exact HB.out | apply below_alloc | apply pw_below_drewN | apply below_drew1) | exact HB.out)) hb); clear HO403; clear HO407; clear HO411; clear HO415; clear HB; have HO403 := n0_; have HO407 := n1_; have HO411 := n2_; have HO415 := n3_; have HO419 := n4_; have HB := n5_; clear n0_ n1_ n2_ n3_ n4_ n5_; (try clear hb); (try clear hb2); (try clear hk); (try clear hi); (try clear ho0)))
              (try simp only [Act.put, List.setIfInBounds_toArray, List.set_cons_zero, List.set_cons_succ])
              go_cut [130] (fun v130 wc => ∃ (kq : Nat) (x130_29 : Bool), v130 = .bool x130_29 ∧ Aside0 (laws_FnNums.j3 kq l1 t409 t412 x130_29 = some r) ∧ Aside0 (kq ≤ kj13) ∧ Aside0 (Kd.S k38 38 wc w.heap.size (fun _ => True) v414 t412) ∧ Aside0 (Below w.heap.size w wc))
              case first =>
                have H := HC30.out
                clear HC30
                by_cases c38 : (t401 != t405) = true
                · rw [if_pos c38] at H
                  exact absurd H (by simp)
                · rw [if_neg c38] at H
                  have c38b0 : (t401 != t405) = false := by simpa using c38
                  (try (have c38b1 : decide (t401 = t405) = true := by simpa using c38))
                  (try (have c38b2 : (t401 == t405) = true := by simpa using c38))
                  clear c38
                  (first | rw [c38b0] | (simp only [i64_w, i32_w]; rw [c38b0]) | skip)
                  replace H := Option.bind_eq_some_iff.mp H
                  obtain ⟨t420, A390, H⟩ := H
                  replace H : (if t420 = true then (if (t413 != t417) = true then (none) else ((laws_sameParts.f kj13 t412 t416).bind fun t421 => (laws_FnNums.j3 kj13 l1 t409 t412 (!t421)))) else (none)) = some r := H
                  have A39 := Aside0.mk A390
                  clear A390
                  by_cases c40 : t420 = true
                  · subst c40
                    have H1 : (if (t413 != t417) = true then (none) else ((laws_sameParts.f kj13 t412 t416).bind fun t421 => (laws_FnNums.j3 kj13 l1 t409 t412 (!t421)))) = some r := by rw [if_pos rfl] at H; exact H
                    clear H
                    have H := H1
                    clear H1
                    by_cases c41 : (t413 != t417) = true
                    · rw [if_pos c41] at H
                      exact absurd H (by simp)
                    · rw [if_neg c41] at H
                      have c41b0 : (t413 != t417) = false := by simpa using c41
                      (try (have c41b1 : decide (t413 = t417) = true := by simpa using c41))
                      (try (have c41b2 : (t413 == t417) = true := by simpa using c41))
                      clear c41
                      replace H := Option.bind_eq_some_iff.mp H
                      obtain ⟨t421, A420, H⟩ := H
                      replace H : (laws_FnNums.j3 kj13 l1 t409 t412 (!t421)) = some r := H
                      have A42 := Aside0.mk A420
                      clear A420
                      as_aux_lemma =>
                        have H' := Aside0.mk H
                        clear H
                        obtain ⟨Ao43, co43, eo43⟩ := Kd.R_slice HO403.out
                        subst eo43
                        obtain ⟨Ao44, co44, eo44⟩ := Kd.R_slice HO407.out
                        subst eo44
                        go_wp2_with (first | (go_at_call 42; (with_reducible refine (laws_sameInts.calls kj13 _ _ t400 _ _ t404 true _ ?side1 ?side2 ?side3 ?side4 A39.out).mono ?_); (case side1 => repeat (first | exact (Kd.R_reads' HO403.out).2.2 | (with_reducible refine Kd.C_alloc ?_ _) | (with_reducible refine Kd.C_drewN ?_ _) | (with_reducible refine Kd.C_drew ?_))); (case side2 => exact (Kd.R_reads' HO403.out).2.1); (case side3 => repeat (first | exact (Kd.R_reads' HO407.out).2.2 | (with_reducible refine Kd.C_alloc ?_ _) | (with_reducible refine Kd.C_drewN ?_ _) | (with_reducible refine Kd.C_drew ?_))); (case side4 => exact (Kd.R_reads' HO407.out).2.1); rintro e w' ⟨rfl, ⟨nd, rfl⟩⟩; obtain ⟨Ao45, co45, eo45⟩ := Kd.S_slice HO415.out; subst eo45; obtain ⟨Ao46, co46, eo46⟩ := Kd.S_slice HO419.out; subst eo46) | (go_at_call 45; (with_reducible refine (laws_sameParts.calls kj13 _ _ t412 _ _ t416 t421 _ ?side1 ?side2 ?side3 ?side4 A42.out).mono ?_); (case side1 => repeat (first | exact (Kd.S_reads' HO415.out).2.2 | (with_reducible refine Kd.C_alloc ?_ _) | (with_reducible refine Kd.C_drewN ?_ _) | (with_reducible refine Kd.C_drew ?_))); (case side2 => exact (Kd.S_reads' HO415.out).2.1); (case side3 => repeat (first | exact (Kd.S_reads' HO419.out).2.2 | (with_reducible refine Kd.C_alloc ?_ _) | (with_reducible refine Kd.C_drewN ?_ _) | (with_reducible refine Kd.C_drew ?_))); (case side4 => exact (Kd.S_reads' HO419.out).2.1); rintro e w47 ⟨rfl, hb⟩; have n0_ := Aside0.mk (Kd.R_below (by (with_reducible repeat (first | apply Kd.R_alloc | apply Kd.R_drewN | apply Kd.R_drew)); exact HO403.out) hb); have n1_ := Aside0.mk (Kd.R_below (by (with_reducible repeat (first | apply Kd.R_alloc | apply Kd.R_drewN | apply Kd.R_drew)); exact HO407.out) hb); have n2_ := Aside0.mk (Kd.S_below (by (with_reducible repeat (first | apply Kd.S_alloc | apply Kd.S_drewN | apply Kd.S_drew)); exact HO411.out) hb); have n3_ := Aside0.mk (Kd.S_below (by (with_reducible repeat (first | apply Kd.S_alloc | apply Kd.S_drewN | apply Kd.S_drew)); exact HO415.out) hb); have n4_ := Aside0.mk (Kd.S_below (by (with_reducible repeat (first | apply Kd.S_alloc | apply Kd.S_drewN | apply Kd.S_drew)); exact HO419.out) hb); have n5_ := Aside0.mk (below_step (by repeat (first | (with_reducible first | exact HB.out | apply below_alloc | apply pw_below_drewN | apply below_drew1) | exact HB.out)) hb); clear HO403; clear HO407; clear HO411; clear HO415; clear HO419; clear HB; have HO403 := n0_; have HO407 := n1_; have HO411 := n2_; have HO415 := n3_; have HO419 := n4_; have HB := n5_; clear n0_ n1_ n2_ n3_ n4_ n5_; (try clear hb); (try clear hb2); (try clear hk); (try clear hi)))
                        go_meet
                        case rel => exact ⟨_, (!t421), (by first | rfl | (simp; done) | (simp [*]; done)), H', ⟨by have := HJ6.out; have := HJ13.out; first | omega | exact Nat.le_refl _⟩, ⟨by (with_reducible repeat (first | apply Kd.S_alloc | apply Kd.S_drewN | apply Kd.S_drew)); exact Kd.S_mono HO415.out (fun _ hk => trivial)⟩, ⟨by repeat (first | (with_reducible first | exact HB.out | apply below_alloc | apply pw_below_drewN | apply below_drew1) | exact HB.out)⟩⟩
                  · replace c40 := Bool.eq_false_iff.mpr c40
                    subst c40
                    have H1 : (none) = some r := by rw [if_neg (show ¬ (false = true) by decide)] at H; exact H
                    clear H
                    have H := H1
                    clear H1
                    exact absurd H (by simp)
              case rest =>
                clear HC30
                try clear c1
                try clear c2
                try clear p2
                try clear c3
                try clear c3b0
                try clear c4
                try clear p6
                try clear c11
                try clear c12
                try clear c12b0
                try clear c12b1
                try clear c12b2
                try clear c13
                try clear c15
                try clear c16
                try clear c19
                try clear c20
                try clear c21
                try clear c22
                try clear c23
                try clear c31
                try clear c33
                try clear c38
                try clear c38b0
                try clear c38b1
                try clear c38b2
                try clear c40
                try clear c41
                try clear c41b0
                try clear c41b1
                try clear c41b2
                try clear c43
                try clear c44
                try clear p2
                try clear p6
                obtain ⟨kq, x130_29, rfl, HA, HJ29, HO_19, HB⟩ := hcut
                cases kq with
                | zero => exact absurd HA.out (by simp [laws_FnNums.j3])
                | succ kj29 =>
                  have H := HA.out
                  clear HA
                  simp only [laws_FnNums.j3] at H
                  by_cases c48 : x130_29 = true
                  · subst c48
                    have H1 : (none) = some r := by rw [if_pos rfl] at H; exact H
                    clear H
                    have H := H1
                    clear H1
                    exact absurd H (by simp)
                  · replace c48 := Bool.eq_false_iff.mpr c48
                    subst c48
                    have H1 : (laws_FnNums.l0 kj29 l1 t409 t412 (t412.length : Int) 0) = some r := by rw [if_neg (show ¬ (false = true) by decide)] at H; exact H
                    clear H
                    have H := H1
                    clear H1
                    have H' := Aside0.mk H
                    clear H
                    obtain ⟨Ao49, co49, eo49⟩ := Kd.S_slice HO_19.out
                    subst eo49
                    go_wp2
                    go_loopg [133] kj29 (fun kq v133 w' => ∃ (x133_4 : Int), v133 = .int .i64 x133_4 ∧ Aside0 (laws_FnNums.l0 kq l1 t409 t412 (t412.length : Int) x133_4 = some r) ∧ Aside0 (kq ≤ kj29) ∧ Aside0 (Kd.S k38 38 w' w.heap.size (fun _ => True) (.slice Ao49 t412.length co49) t412) ∧ Aside0 (Below w.heap.size w w'))
                    case atStart => exact ⟨(0), (by first | rfl | (simp; done) | (simp [*]; done)), H', ⟨Nat.le_refl _⟩, ⟨by (with_reducible repeat (first | apply Kd.S_alloc | apply Kd.S_drewN | apply Kd.S_drew)); exact HO_19.out⟩, ⟨by repeat (first | (with_reducible first | exact HB.out | apply below_alloc | apply pw_below_drewN | apply below_drew1) | exact HB.out)⟩⟩
                    case round =>
                      clear H'
                      try clear c1
                      try clear c2
                      try clear p2
                      try clear c3
                      try clear c3b0
                      try clear c4
                      try clear p6
                      try clear c11
                      try clear c12
                      try clear c12b0
                      try clear c12b1
                      try clear c12b2
                      try clear c13
                      try clear c15
                      try clear c16
                      try clear c19
                      try clear c20
                      try clear c21
                      try clear c22
                      try clear c23
                      try clear c31
                      try clear c33
                      try clear c38
                      try clear c38b0
                      try clear c38b1
                      try clear c38b2
                      try clear c40
                      try clear c41
                      try clear c41b0
                      try clear c41b1
                      try clear c41b2
                      try clear c43
                      try clear c44
                      try clear c48
                      try clear p2
                      try clear p6
                      obtain ⟨x133_4, rfl, HA, HK4, HO_131, HB⟩ := hrel
                      cases gk with
                      | zero => exact absurd HA.out (by simp [laws_FnNums.l0])
                      | succ k4 =>
                        have H := HA.out
                        clear HA
                        simp only [laws_FnNums.l0] at H
                        by_cases c50 : x133_4 < (t412.length : Int)
                        · rw [if_pos c50] at H
                          have c50b0 : decide (x133_4 < (t412.length : Int)) = true := decide_eq_true c50
                          clear c50
                          by_cases c51 : 0 ≤ x133_4
                          · rw [if_pos c51] at H
                            have c51b0 : decide (0 ≤ x133_4) = true := decide_eq_true c51
                            clear c51
                            by_cases c52 : x133_4 < (t412.length : Int)
                            · rw [if_pos c52] at H
                              have c52b0 : decide (x133_4 < (t412.length : Int)) = true := decide_eq_true c52
                              clear c52
                              by_cases c53 : ((rd_T38 t412 x133_4).f0) = t409
                              · rw [if_pos c53] at H
                                have c53b0 : (((rd_T38 t412 x133_4).f0) == t409) = true := beq_iff_eq.mpr c53
                                have c53b1 : (((rd_T38 t412 x133_4).f0) != t409) = false := bne_eq_false_iff_eq.mpr c53
                                clear c53
                                as_aux_lemma =>
                                  have H' := Aside0.mk H
                                  clear H
                                  have p422 : 0 ≤ (x133_4 : Int) := of_decide_eq_true (by first | (with_reducible assumption) | assumption)
                                  have q422 : x133_4 < (t412.length : Int) := of_decide_eq_true (by first | (with_reducible assumption) | assumption)
                                  obtain ⟨ad422, A422_2, c422_2, e422, hx422_0, hx422_1, hx422_2, hl422_2, hi422_2⟩ := at_T38 (Kd.S_reads' HO_131.out).2.2 x133_4 p422 q422
                                  cases e422
                                  obtain ⟨ce422, hce422, hMe422, hcc422⟩ := Kd.S_get HO_131.out z38 x133_4 p422 (by first | exact q422 | exact of_decide_eq_true (by first | (with_reducible assumption) | assumption) | (have e_ := (Kd.S_reads' HO_131.out).1; omega))
                                  obtain ⟨ve422_2, rfl, ge422_2⟩ := k38_openM hMe422
                                  have hv422_2 := hcc422 2 _ rfl
                                  rw [add_field _ _ 2 (by omega)] at hv422_2
                                  replace hv422_2 := Option.some.inj (hv422_2.symm.trans hx422_2)
                                  rw [hv422_2] at ge422_2
                                  have HL422_2 := Aside0.mk (show Kd.R (Kd.int .i64) 3 _ _ _ _ ((rd_T38 t412 x133_4).f2) from ge422_2)
                                  clear hv422_2 ge422_2
                                  clear hcc422 hce422
                                  have HR422_2 := Aside0.mk hi422_2
                                  have HC422_2 := Aside0.mk hl422_2
                                  clear hi422_2 hl422_2
                                  replace p422 := eq_true p422
                                  replace q422 := eq_true q422
                                  go_wp2_with (first | ((with_reducible refine gate_dst (N := 24) rfl ?_); (try (refine gate_guard (by rfl) ?_; dsimp only)); refine box_event ?hg (N := 24) ?hd (cs := #[.int .i64 0, .string (⟨#[]⟩ : ByteArray), .slice none 0 0]) (t := 38) ?hr ?_; (case hd => rfl); (case hg => rfl); (case hr => first | (go_simp; done) | (go_simp; rfl)); intro gb423 hg w54 hbox hb; have n0_ := Aside0.mk (Kd.S_below (Kd.S_elderB (by (with_reducible repeat (first | apply Kd.S_alloc | apply Kd.S_drewN | apply Kd.S_drew)); exact HO_131.out) gb423 (Nat.le_of_eq hg.symm)) hb); have n1_ := Aside0.mk (Kd.R_below (by (with_reducible repeat (first | apply Kd.R_alloc | apply Kd.R_drewN | apply Kd.R_drew)); exact HL422_2.out) hb); have n2_ := Aside0.mk (Kd.C_below (by repeat (first | (with_reducible exact HR422_2.out) | (with_reducible refine Kd.C_alloc ?_ _) | (with_reducible refine Kd.C_drewN ?_ _) | (with_reducible refine Kd.C_drew ?_) | exact HR422_2.out)) hb); have n3_ := Aside0.mk (below_step (by repeat (first | (with_reducible first | exact HB.out | apply below_alloc | apply pw_below_drewN | apply below_drew1) | exact HB.out)) hb); have n4_ := Aside0.mk (hbox); have n5_ := Aside0.mk ((by rw [hg]; exact (below_size (by repeat (first | (with_reducible first | exact HB.out | apply below_alloc | apply pw_below_drewN | apply below_drew1) | exact HB.out))) : w.heap.size ≤ gb423)); have n6_ := Aside0.mk ((by rw [hg]; exact (below_size (by repeat (first | (with_reducible first | exact HB.out | apply below_alloc | apply pw_below_drewN | apply below_drew1) | exact HB.out))) : w.heap.size ≤ gb423)); clear HO_131; clear HL422_2; clear HR422_2; clear HB; have HO_131 := n0_; have HL422_2 := n1_; have HR422_2 := n2_; have HB := n3_; have BK423 := n4_; have GW423 := n5_; have GE423 := n6_; clear n0_ n1_ n2_ n3_ n4_ n5_ n6_; clear hb hbox hg; have hcz55_0 : w54.cell? ⟨gb423, 0, none⟩ = some (.int .i64 0) := (blk_cell BK423.out 0).trans rfl; have hcz55_1 : w54.cell? ⟨gb423, 1, none⟩ = some (.string (⟨#[]⟩ : ByteArray)) := (blk_cell BK423.out 1).trans rfl; have hcz55_2 : w54.cell? ⟨gb423, 2, none⟩ = some (.slice none 0 0) := (blk_cell BK423.out 2).trans rfl; have hfz55_0 := blk_frozen BK423.out 0; have hfz55_1 := blk_frozen BK423.out 1; have hfz55_2 := blk_frozen BK423.out 2))
                                  go_roundg k4
                                  case measure => have := HJ6.out; have := HJ13.out; have := HJ29.out; have := HK4.out; omega
                                  case rel => exact ⟨(wrap64 (x133_4 + 1)), (by first | rfl | (simp; done) | (simp [*]; done)), H', ⟨by have := HJ6.out; have := HJ13.out; have := HJ29.out; have := HK4.out; omega⟩, ⟨by (with_reducible repeat (first | apply Kd.S_alloc | apply Kd.S_drewN | apply Kd.S_drew)); exact Kd.S_mono (Kd.S_far (p := ⟨gb423, 2, none⟩) (Kd.S_far (p := ⟨gb423, 1, none⟩) (Kd.S_far (p := ⟨gb423, 0, none⟩) (Kd.S_mono HO_131.out (fun k_ hk => (⟨hk, hk.2⟩ : _ ∧ k_ ≠ gb423))) (fun _ hk => hk.2) (.int .i64 ((rd_T38 t412 x133_4).f0))) (fun _ hk => hk.2) (.string ((rd_T38 t412 x133_4).f1))) (fun _ hk => hk.2) (.slice A422_2 ((rd_T38 t412 x133_4).f2).length c422_2)) (fun _ hk => trivial)⟩, ⟨by repeat (first | (with_reducible first | exact HB.out | apply below_alloc | apply pw_below_drewN | apply below_drew1 | refine below_set ?_ GE423.out) | exact HB.out)⟩⟩
                              · rw [if_neg c53] at H
                                exact absurd H (by simp)
                            · rw [if_neg c52] at H
                              exact absurd H (by simp)
                          · rw [if_neg c51] at H
                            exact absurd H (by simp)
                        · rw [if_neg c50] at H
                          have c50b0 : decide (x133_4 < (t412.length : Int)) = false := decide_eq_false c50
                          clear c50
                          replace H := Option.bind_eq_some_iff.mp H
                          obtain ⟨⟨t424, t425, t426⟩, A560, H⟩ := H
                          replace H : ((impl_PartText.f k4 t424 t425 t426).bind fun bt430 => ((spec_PartText.f k4 t424 t425 t426).bind fun bt432 => (if (bt430.2 != bt432.2) = true then (none) else (if bt430.1.toList = bt432.1.toList then ((impl_GoodPart.f k4 t424 t425 t426).bind fun t434 => (laws_FnNums.j5 k4 bt430.1 bt430.2 (t434 != bt430.2) t424 t425 t426)) else (none))))) = some r := H
                          have A56 := Aside0.mk A560
                          clear A560
                          replace H := Option.bind_eq_some_iff.mp H
                          obtain ⟨⟨t430, t431⟩, A570, H⟩ := H
                          replace H : ((spec_PartText.f k4 t424 t425 t426).bind fun bt432 => (if (t431 != bt432.2) = true then (none) else (if t430.toList = bt432.1.toList then ((impl_GoodPart.f k4 t424 t425 t426).bind fun t434 => (laws_FnNums.j5 k4 t430 t431 (t434 != t431) t424 t425 t426)) else (none)))) = some r := H
                          have A57 := Aside0.mk A570
                          clear A570
                          replace H := Option.bind_eq_some_iff.mp H
                          obtain ⟨⟨t432, t433⟩, A580, H⟩ := H
                          replace H : (if (t431 != t433) = true then (none) else (if t430.toList = t432.toList then ((impl_GoodPart.f k4 t424 t425 t426).bind fun t434 => (laws_FnNums.j5 k4 t430 t431 (t434 != t431) t424 t425 t426)) else (none))) = some r := H
                          have A58 := Aside0.mk A580
                          clear A580
                          have HC59 := Aside0.mk H
                          clear H
                          go_upto_region 29 with (first | ((with_reducible refine gate_callee (f := 46) rfl ?_); refine goesL_ (some 143) rfl rfl Try.func46 (by kernel_rfl) rfl #[.slice A1 l1.length c1] rfl (by (try simp only [List.map_toArray, List.map_cons, List.map_nil]); first | done | rfl | (simp only [List.length_drop, List.length_take]; rfl)) ?_; (with_reducible refine (spec_DrawPartText.calls k4 _ _ l1 t424 t425 t426 _ ?side1 ?side2 A56.out).mono ?_); (case side1 => repeat (first | exact (Kd.C_below HR1.out HB.out) | (with_reducible refine Kd.C_alloc ?_ _) | (with_reducible refine Kd.C_drewN ?_ _) | (with_reducible refine Kd.C_drew ?_))); (case side2 => exact HC1.out); rintro e w60 ⟨v427, rfl, ho0, hb⟩; refine ⟨_, rfl, ?_⟩; have n0_ := Aside0.mk (Kd.S_elder' (by (with_reducible repeat (first | apply Kd.S_alloc | apply Kd.S_drewN | apply Kd.S_drew)); exact HO_131.out) (Kd.R_base ho0) hb); have n1_ := Aside0.mk (Kd.R_lower ho0 (below_size (by repeat (first | (with_reducible first | exact HB.out | apply below_alloc | apply pw_below_drewN | apply below_drew1) | exact HB.out)))); have n2_ := Aside0.mk (below_step (by repeat (first | (with_reducible first | exact HB.out | apply below_alloc | apply pw_below_drewN | apply below_drew1) | exact HB.out)) hb); clear HO_131; clear HB; have HO_131 := n0_; have HO428 := n1_; have HB := n2_; clear n0_ n1_ n2_; (try clear hb); (try clear hb2); (try clear hk); (try clear hi); (try clear ho0)) | ((with_reducible refine gate_dst (N := 25) rfl ?_); (try (refine gate_guard (by rfl) ?_; dsimp only)); refine box_event ?hg (N := 25) ?hd (cs := #[.int .i64 0, .string (⟨#[]⟩ : ByteArray), .slice none 0 0]) (t := 38) ?hr ?_; (case hd => rfl); (case hg => rfl); (case hr => first | (go_simp; done) | (go_simp; rfl)); intro gb429 hg w61 hbox hb; have n0_ := Aside0.mk (Kd.S_below (Kd.S_elderB (by (with_reducible repeat (first | apply Kd.S_alloc | apply Kd.S_drewN | apply Kd.S_drew)); exact HO_131.out) gb429 (Nat.le_of_eq hg.symm)) hb); have n1_ := Aside0.mk (Kd.R_below (by (with_reducible repeat (first | apply Kd.R_alloc | apply Kd.R_drewN | apply Kd.R_drew)); exact HO428.out) hb); have n2_ := Aside0.mk (below_step (by repeat (first | (with_reducible first | exact HB.out | apply below_alloc | apply pw_below_drewN | apply below_drew1) | exact HB.out)) hb); have n3_ := Aside0.mk (hbox); have n4_ := Aside0.mk ((by rw [hg]; exact (below_size (by repeat (first | (with_reducible first | exact HB.out | apply below_alloc | apply pw_below_drewN | apply below_drew1) | exact HB.out))) : w.heap.size ≤ gb429)); have n5_ := Aside0.mk ((by rw [hg]; exact (below_size (by repeat (first | (with_reducible first | exact HB.out | apply below_alloc | apply pw_below_drewN | apply below_drew1) | exact HB.out))) : w.heap.size ≤ gb429)); clear HO_131; clear HO428; clear HB; have HO_131 := n0_; have HO428 := n1_; have HB := n2_; have BK429 := n3_; have GW429 := n4_; have GE429 := n5_; clear n0_ n1_ n2_ n3_ n4_ n5_; clear hb hbox hg; have hcz62_0 : w61.cell? ⟨gb429, 0, none⟩ = some (.int .i64 0) := (blk_cell BK429.out 0).trans rfl; have hcz62_1 : w61.cell? ⟨gb429, 1, none⟩ = some (.string (⟨#[]⟩ : ByteArray)) := (blk_cell BK429.out 1).trans rfl; have hcz62_2 : w61.cell? ⟨gb429, 2, none⟩ = some (.slice none 0 0) := (blk_cell BK429.out 2).trans rfl; have hfz62_0 := blk_frozen BK429.out 0; have hfz62_1 := blk_frozen BK429.out 1; have hfz62_2 := blk_frozen BK429.out 2; obtain ⟨Ao63, co63, eo63⟩ := Kd.R_slice HO428.out; subst eo63) | ((with_reducible refine gate_callee (f := 29) rfl ?_); refine goesL_ (some 146) rfl rfl Try.func29 (by kernel_rfl) rfl #[.agg #[.int .i64 t424, .string t425, .slice Ao63 t426.length co63]] rfl (by (try simp only [List.map_toArray, List.map_cons, List.map_nil]); first | done | rfl | (simp only [List.length_drop, List.length_take]; rfl)) ?_; (with_reducible refine (impl_PartText.calls k4 t424 t425 _ _ t426 t430 t431 _ ?side1 ?side2 A57.out).mono ?_); (case side1 => refine (Kd.R_reads' (e := 3) (base := w.heap.size) (ok := fun k_ => True) (n := t426.length) (c := co63) ?_).2.2; exact (by (with_reducible repeat (first | apply Kd.R_alloc | apply Kd.R_drewN | apply Kd.R_drew)); exact (Kd.R_mono (Kd.R_far (p := ⟨gb429, 2, none⟩) (Kd.R_far (p := ⟨gb429, 1, none⟩) (Kd.R_far (p := ⟨gb429, 0, none⟩) (Kd.R_types HO428.out BK429.out (by decide)) (fun _ hk => hk.2) (.int .i64 t424)) (fun _ hk => hk.2) (.string t425)) (fun _ hk => hk.2) (.slice Ao63 t426.length co63)) (fun _ h_ => h_.1)))); (case side2 => exact (Kd.R_reads' HO428.out).2.1); rintro e w64 ⟨rfl, hb⟩; refine ⟨_, rfl, ?_⟩; have n0_ := Aside0.mk (Kd.S_below (by (with_reducible repeat (first | apply Kd.S_alloc | apply Kd.S_drewN | apply Kd.S_drew)); exact (Kd.S_mono (Kd.S_far (p := ⟨gb429, 2, none⟩) (Kd.S_far (p := ⟨gb429, 1, none⟩) (Kd.S_far (p := ⟨gb429, 0, none⟩) (Kd.S_mono HO_131.out (fun k_ hk => (⟨hk, hk.2⟩ : _ ∧ k_ ≠ gb429))) (fun _ hk => hk.2) (.int .i64 t424)) (fun _ hk => hk.2) (.string t425)) (fun _ hk => hk.2) (.slice Ao63 t426.length co63)) (fun _ h_ => h_.1))) hb); have n1_ := Aside0.mk (Kd.R_below (by (with_reducible repeat (first | apply Kd.R_alloc | apply Kd.R_drewN | apply Kd.R_drew)); exact (Kd.R_mono (Kd.R_far (p := ⟨gb429, 2, none⟩) (Kd.R_far (p := ⟨gb429, 1, none⟩) (Kd.R_far (p := ⟨gb429, 0, none⟩) (Kd.R_types HO428.out BK429.out (by decide)) (fun _ hk => hk.2) (.int .i64 t424)) (fun _ hk => hk.2) (.string t425)) (fun _ hk => hk.2) (.slice Ao63 t426.length co63)) (fun _ h_ => h_.1))) hb); have n2_ := Aside0.mk (blk_below (g := gb429) (o := .cells #[.int .i64 t424, .string t425, .slice Ao63 t426.length co63] 38 (0, 0)) (by (with_reducible repeat (first | refine blk_drewN ?_ _ | refine blk_drew ?_ | refine blk_alloc ?_ _)); refine blk_put (cs := #[.int .i64 t424, .string t425, .slice none 0 0]) ?_ 2 _ rfl; (with_reducible repeat (first | refine blk_drewN ?_ _ | refine blk_drew ?_ | refine blk_alloc ?_ _)); refine blk_put (cs := #[.int .i64 t424, .string (⟨#[]⟩ : ByteArray), .slice none 0 0]) ?_ 1 _ rfl; (with_reducible repeat (first | refine blk_drewN ?_ _ | refine blk_drew ?_ | refine blk_alloc ?_ _)); refine blk_put (cs := #[.int .i64 0, .string (⟨#[]⟩ : ByteArray), .slice none 0 0]) ?_ 0 _ rfl; (with_reducible repeat (first | refine blk_drewN ?_ _ | refine blk_drew ?_ | refine blk_alloc ?_ _)); exact BK429.out) hb); have n3_ := Aside0.mk (below_step (by repeat (first | (with_reducible first | exact HB.out | apply below_alloc | apply pw_below_drewN | apply below_drew1 | refine below_set ?_ GE429.out) | exact HB.out)) hb); clear HO_131; clear HO428; clear BK429; clear HB; have HO_131 := n0_; have HO428 := n1_; have BK429 := n2_; have HB := n3_; clear n0_ n1_ n2_ n3_; (try clear hb); (try clear hb2); (try clear hk); (try clear hi); have hcz65_0 : w64.cell? ⟨gb429, 0, none⟩ = some (.int .i64 t424) := (blk_cell BK429.out 0).trans rfl; have hcz65_1 : w64.cell? ⟨gb429, 1, none⟩ = some (.string t425) := (blk_cell BK429.out 1).trans rfl; have hcz65_2 : w64.cell? ⟨gb429, 2, none⟩ = some (.slice Ao63 t426.length co63) := (blk_cell BK429.out 2).trans rfl; have hfz65_0 := blk_frozen BK429.out 0; have hfz65_1 := blk_frozen BK429.out 1; have hfz65_2 := blk_frozen BK429.out 2) | ((with_reducible refine gate_callee (f := 28) rfl ?_); refine goesL_ (some 151) rfl rfl Try.func28 (by kernel_rfl) rfl #[.agg #[.int .i64 t424, .string t425, .slice Ao63 t426.length co63]] rfl (by (try simp only [List.map_toArray, List.map_cons, List.map_nil]); first | done | rfl | (simp only [List.length_drop, List.length_take]; rfl)) ?_; (with_reducible refine (spec_PartText.calls k4 t424 t425 _ _ t426 t432 t433 _ ?side1 ?side2 A58.out).mono ?_); (case side1 => repeat (first | exact (Kd.R_reads' HO428.out).2.2 | (with_reducible refine Kd.C_alloc ?_ _) | (with_reducible refine Kd.C_drewN ?_ _) | (with_reducible refine Kd.C_drew ?_))); (case side2 => exact (Kd.R_reads' HO428.out).2.1); rintro e w66 ⟨rfl, hb⟩; refine ⟨_, rfl, ?_⟩; have n0_ := Aside0.mk (Kd.S_below (by (with_reducible repeat (first | apply Kd.S_alloc | apply Kd.S_drewN | apply Kd.S_drew)); exact HO_131.out) hb); have n1_ := Aside0.mk (Kd.R_below (by (with_reducible repeat (first | apply Kd.R_alloc | apply Kd.R_drewN | apply Kd.R_drew)); exact HO428.out) hb); have n2_ := Aside0.mk (blk_below (g := gb429) (o := .cells #[.int .i64 t424, .string t425, .slice Ao63 t426.length co63] 38 (0, 0)) (by (with_reducible repeat (first | refine blk_drewN ?_ _ | refine blk_drew ?_ | refine blk_alloc ?_ _)); exact BK429.out) hb); have n3_ := Aside0.mk (below_step (by repeat (first | (with_reducible first | exact HB.out | apply below_alloc | apply pw_below_drewN | apply below_drew1 | refine below_set ?_ GE429.out) | exact HB.out)) hb); clear HO_131; clear HO428; clear BK429; clear HB; have HO_131 := n0_; have HO428 := n1_; have BK429 := n2_; have HB := n3_; clear n0_ n1_ n2_ n3_; (try clear hb); (try clear hb2); (try clear hk); (try clear hi)))
                          (try simp only [Act.put, List.setIfInBounds_toArray, List.set_cons_zero, List.set_cons_succ])
                          go_cut [167] (fun v167 wc => ∃ (kq : Nat) (x167_58 : Bool), v167 = .bool x167_58 ∧ Aside0 (laws_FnNums.j5 kq t430 t431 x167_58 t424 t425 t426 = some r) ∧ Aside0 (kq ≤ k4) ∧ Aside0 (Kd.R (Kd.int .i64) 3 wc w.heap.size (fun _ => True) (.slice Ao63 t426.length co63) t426) ∧ Aside0 (wc.heap[gb429]? = some (.cells #[.int .i64 t424, .string t425, (.slice Ao63 t426.length co63)] 38 (0, 0))) ∧ Aside0 (Below w.heap.size w wc))
                          case first =>
                            have H := HC59.out
                            clear HC59
                            by_cases c67 : (t431 != t433) = true
                            · rw [if_pos c67] at H
                              exact absurd H (by simp)
                            · rw [if_neg c67] at H
                              have c67b0 : (t431 != t433) = false := by simpa using c67
                              (try (have c67b1 : decide (t431 = t433) = true := by simpa using c67))
                              (try (have c67b2 : (t431 == t433) = true := by simpa using c67))
                              clear c67
                              (first | rw [c67b0] | (simp only [i64_w, i32_w]; rw [c67b0]) | skip)
                              by_cases c68 : t430.toList = t432.toList
                              · rw [if_pos c68] at H
                                have c68b0 : (t430.toList == t432.toList) = true := beq_iff_eq.mpr c68
                                have c68b1 : (t430.toList != t432.toList) = false := bne_eq_false_iff_eq.mpr c68
                                clear c68
                                replace H := Option.bind_eq_some_iff.mp H
                                obtain ⟨t434, A690, H⟩ := H
                                replace H : (laws_FnNums.j5 k4 t430 t431 (t434 != t431) t424 t425 t426) = some r := H
                                have A69 := Aside0.mk A690
                                clear A690
                                as_aux_lemma =>
                                  have H' := Aside0.mk H
                                  clear H
                                  have hcz70_0 : w66.cell? ⟨gb429, 0, none⟩ = some (.int .i64 t424) := (blk_cell BK429.out 0).trans rfl
                                  have hcz70_1 : w66.cell? ⟨gb429, 1, none⟩ = some (.string t425) := (blk_cell BK429.out 1).trans rfl
                                  have hcz70_2 : w66.cell? ⟨gb429, 2, none⟩ = some (.slice Ao63 t426.length co63) := (blk_cell BK429.out 2).trans rfl
                                  have hfz70_0 := blk_frozen BK429.out 0
                                  have hfz70_1 := blk_frozen BK429.out 1
                                  have hfz70_2 := blk_frozen BK429.out 2
                                  go_wp2_with (first | (go_at_call 26; (with_reducible refine (impl_GoodPart.calls k4 t424 t425 _ _ t426 t434 _ ?side1 ?side2 A69.out).mono ?_); (case side1 => repeat (first | exact (Kd.R_reads' HO428.out).2.2 | (with_reducible refine Kd.C_alloc ?_ _) | (with_reducible refine Kd.C_drewN ?_ _) | (with_reducible refine Kd.C_drew ?_))); (case side2 => exact (Kd.R_reads' HO428.out).2.1); rintro e w71 ⟨rfl, hb⟩; have n0_ := Aside0.mk (Kd.S_below (by (with_reducible repeat (first | apply Kd.S_alloc | apply Kd.S_drewN | apply Kd.S_drew)); exact HO_131.out) hb); have n1_ := Aside0.mk (Kd.R_below (by (with_reducible repeat (first | apply Kd.R_alloc | apply Kd.R_drewN | apply Kd.R_drew)); exact HO428.out) hb); have n2_ := Aside0.mk (blk_below (g := gb429) (o := .cells #[.int .i64 t424, .string t425, .slice Ao63 t426.length co63] 38 (0, 0)) (by (with_reducible repeat (first | refine blk_drewN ?_ _ | refine blk_drew ?_ | refine blk_alloc ?_ _)); exact BK429.out) hb); have n3_ := Aside0.mk (below_step (by repeat (first | (with_reducible first | exact HB.out | apply below_alloc | apply pw_below_drewN | apply below_drew1 | refine below_set ?_ GE429.out) | exact HB.out)) hb); clear HO_131; clear HO428; clear BK429; clear HB; have HO_131 := n0_; have HO428 := n1_; have BK429 := n2_; have HB := n3_; clear n0_ n1_ n2_ n3_; (try clear hb); (try clear hb2); (try clear hk); (try clear hi)))
                                  go_meet
                                  case rel => exact ⟨_, ((t434 != t431)), (by first | rfl | (simp; done) | (simp [*]; done)), H', ⟨by have := HJ6.out; have := HJ13.out; have := HJ29.out; have := HK4.out; first | omega | exact Nat.le_refl _⟩, ⟨by (with_reducible repeat (first | apply Kd.R_alloc | apply Kd.R_drewN | apply Kd.R_drew)); exact HO428.out⟩, ⟨by (with_reducible repeat (first | refine blk_drewN ?_ _ | refine blk_drew ?_ | refine blk_alloc ?_ _)); exact BK429.out⟩, ⟨by repeat (first | (with_reducible first | exact HB.out | apply below_alloc | apply pw_below_drewN | apply below_drew1 | refine below_set ?_ GE429.out) | exact HB.out)⟩⟩
                              · rw [if_neg c68] at H
                                exact absurd H (by simp)
                          case rest =>
                            clear HC59
                            try clear c1
                            try clear c2
                            try clear p2
                            try clear c3
                            try clear c3b0
                            try clear c4
                            try clear p4
                            try clear q4
                            try clear hx4
                            try clear c5
                            try clear c6
                            try clear p6
                            try clear c11
                            try clear c12
                            try clear c12b0
                            try clear c12b1
                            try clear c12b2
                            try clear c13
                            try clear c15
                            try clear c16
                            try clear c19
                            try clear c20
                            try clear c21
                            try clear c22
                            try clear c23
                            try clear c28
                            try clear c29
                            try clear c31
                            try clear c33
                            try clear c38
                            try clear c38b0
                            try clear c38b1
                            try clear c38b2
                            try clear c40
                            try clear c41
                            try clear c41b0
                            try clear c41b1
                            try clear c41b2
                            try clear c42
                            try clear p42
                            try clear q42
                            try clear hx42
                            try clear c43
                            try clear c44
                            try clear c46
                            try clear c48
                            try clear c50
                            try clear c50b0
                            try clear c51
                            try clear c51b0
                            try clear c52
                            try clear c52b0
                            try clear c53
                            try clear c53b0
                            try clear c53b1
                            try clear p64
                            try clear c67
                            try clear c67b0
                            try clear c67b1
                            try clear c67b2
                            try clear c68
                            try clear c68b0
                            try clear c68b1
                            try clear hcz55_0
                            try clear hcz55_1
                            try clear hcz55_2
                            try clear hcz62_0
                            try clear hcz62_1
                            try clear hcz62_2
                            try clear hcz65_0
                            try clear hcz65_1
                            try clear hcz65_2
                            try clear hcz70_0
                            try clear hcz70_1
                            try clear hcz70_2
                            try clear hfz55_0
                            try clear hfz55_1
                            try clear hfz55_2
                            try clear hfz62_0
                            try clear hfz62_1
                            try clear hfz62_2
                            try clear hfz65_0
                            try clear hfz65_1
                            try clear hfz65_2
                            try clear hfz70_0
                            try clear hfz70_1
                            try clear hfz70_2
                            try clear hx422_0
                            try clear hx422_1
                            try clear hx422_2
                            try clear p2
                            try clear p422
                            try clear p6
                            try clear q422
                            obtain ⟨kq, x167_58, rfl, HA, HJ58, HO_430002, BK429, HB⟩ := hcut
                            cases kq with
                            | zero => exact absurd HA.out (by simp [laws_FnNums.j5])
                            | succ kj58 =>
                              have H := HA.out
                              clear HA
                              simp only [laws_FnNums.j5] at H
                              by_cases c72 : x167_58 = true
                              · subst c72
                                have H1 : (none) = some r := by rw [if_pos rfl] at H; exact H
                                clear H
                                have H := H1
                                clear H1
                                exact absurd H (by simp)
                              · replace c72 := Bool.eq_false_iff.mpr c72
                                subst c72
                                have H1 : (if t431 = true then ((impl_SkipPart.f t430).bind fun bt435 => (if bt435.2.2.2 = true then (if bt435.1 = t424 then (if bt435.2.1 = (wrap64 ((t430.size : Int) - 2)) then (if 2 ≤ (t430.size : Int) then (some (bt435.2.2.1.toList == (t430.extract 2 t430.size).toList)) else (none)) else (none)) else (none)) else (none))) else (some true)) = some r := by rw [if_neg (show ¬ (false = true) by decide)] at H; exact H
                                clear H
                                have H := H1
                                clear H1
                                by_cases c73 : t431 = true
                                · subst c73
                                  have H1 : ((impl_SkipPart.f t430).bind fun bt435 => (if bt435.2.2.2 = true then (if bt435.1 = t424 then (if bt435.2.1 = (wrap64 ((t430.size : Int) - 2)) then (if 2 ≤ (t430.size : Int) then (some (bt435.2.2.1.toList == (t430.extract 2 t430.size).toList)) else (none)) else (none)) else (none)) else (none))) = some r := by rw [if_pos rfl] at H; exact H
                                  clear H
                                  have H := H1
                                  clear H1
                                  replace H := Option.bind_eq_some_iff.mp H
                                  obtain ⟨⟨t435, t436, t437, t438⟩, A740, H⟩ := H
                                  replace H : (if t438 = true then (if t435 = t424 then (if t436 = (wrap64 ((t430.size : Int) - 2)) then (if 2 ≤ (t430.size : Int) then (some (t437.toList == (t430.extract 2 t430.size).toList)) else (none)) else (none)) else (none)) else (none)) = some r := H
                                  have A74 := Aside0.mk A740
                                  clear A740
                                  by_cases c75 : t438 = true
                                  · subst c75
                                    have H1 : (if t435 = t424 then (if t436 = (wrap64 ((t430.size : Int) - 2)) then (if 2 ≤ (t430.size : Int) then (some (t437.toList == (t430.extract 2 t430.size).toList)) else (none)) else (none)) else (none)) = some r := by rw [if_pos rfl] at H; exact H
                                    clear H
                                    have H := H1
                                    clear H1
                                    by_cases c76 : t435 = t424
                                    · rw [if_pos c76] at H
                                      have c76b0 : (t435 == t424) = true := beq_iff_eq.mpr c76
                                      have c76b1 : (t435 != t424) = false := bne_eq_false_iff_eq.mpr c76
                                      clear c76
                                      by_cases c77 : t436 = (wrap64 ((t430.size : Int) - 2))
                                      · rw [if_pos c77] at H
                                        have c77b0 : (t436 == (wrap64 ((t430.size : Int) - 2))) = true := beq_iff_eq.mpr c77
                                        have c77b1 : (t436 != (wrap64 ((t430.size : Int) - 2))) = false := bne_eq_false_iff_eq.mpr c77
                                        clear c77
                                        by_cases c78 : 2 ≤ (t430.size : Int)
                                        · rw [if_pos c78] at H
                                          have c78b0 := eq_true c78
                                          have c78b1 : decide (2 ≤ (t430.size : Int)) = true := decide_eq_true c78
                                          clear c78
                                          as_aux_lemma =>
                                            obtain rfl := Option.some.inj H
                                            go_wp2_with (first | ((with_reducible refine gate_callee (f := 14) rfl ?_); refine goesL_ (some 171) rfl rfl Try.func14 (by kernel_rfl) rfl #[.string t430] rfl (by (try simp only [List.map_toArray, List.map_cons, List.map_nil]); first | done | rfl | (simp only [List.length_drop, List.length_take]; rfl)) ?_; (with_reducible refine (impl_SkipPart.calls t430 t435 t436 t437 true _ A74.out).mono ?_); rintro e w' ⟨rfl, ⟨nd, rfl⟩⟩; refine ⟨_, rfl, ?_⟩; have hcz79_0 : wc.cell? ⟨gb429, 0, none⟩ = some (.int .i64 t424) := (blk_cell BK429.out 0).trans rfl; have hcz79_1 : wc.cell? ⟨gb429, 1, none⟩ = some (.string t425) := (blk_cell BK429.out 1).trans rfl; have hcz79_2 : wc.cell? ⟨gb429, 2, none⟩ = some (.slice Ao63 t426.length co63) := (blk_cell BK429.out 2).trans rfl; have hfz79_0 := blk_frozen BK429.out 0; have hfz79_1 := blk_frozen BK429.out 1; have hfz79_2 := blk_frozen BK429.out 2))
                                            go_ret
                                            exact ⟨by first | rfl | (simp [errW_none, errW_some] <;> rfl) | (simp [*, errW_none, errW_some] <;> rfl), by repeat (first | (with_reducible first | exact HB.out | apply below_alloc | apply pw_below_drewN | apply below_drew1 | refine below_set ?_ GE429.out) | exact HB.out)⟩
                                        · rw [if_neg c78] at H
                                          exact absurd H (by simp)
                                      · rw [if_neg c77] at H
                                        exact absurd H (by simp)
                                    · rw [if_neg c76] at H
                                      exact absurd H (by simp)
                                  · replace c75 := Bool.eq_false_iff.mpr c75
                                    subst c75
                                    have H1 : (none) = some r := by rw [if_neg (show ¬ (false = true) by decide)] at H; exact H
                                    clear H
                                    have H := H1
                                    clear H1
                                    exact absurd H (by simp)
                                · replace c73 := Bool.eq_false_iff.mpr c73
                                  subst c73
                                  have H1 : (some true) = some r := by rw [if_neg (show ¬ (false = true) by decide)] at H; exact H
                                  clear H
                                  have H := H1
                                  clear H1
                                  as_aux_lemma =>
                                    obtain rfl := Option.some.inj H
                                    go_wp2
                                    go_ret
                                    exact ⟨by first | rfl | (simp [errW_none, errW_some] <;> rfl) | (simp [*, errW_none, errW_some] <;> rfl), by repeat (first | (with_reducible first | exact HB.out | apply below_alloc | apply pw_below_drewN | apply below_drew1 | refine below_set ?_ GE429.out) | exact HB.out)⟩

/-- THE ONE PURE STATEMENT of laws_FnNums: yours. -/
def laws_FnNums.Pure : Prop := ∀ (l0 : List Int) (l1 : List Int), l0.length ≤ maxLen → l0.length * 1 ≤ 140737488351232 → (∀ x ∈ l0, (Lit.int .u8 x).wf = true) → l1.length ≤ maxLen → l1.length * 1 ≤ 140737488351232 → (∀ x ∈ l1, (Lit.int .u8 x).wf = true) → ∃ k, laws_FnNums.f k l0 l1 = some true
theorem laws_FnNums.walk (P : laws_FnNums.Pure) (a0 : Option Addr) (len0 cap0 : Nat) (z0 : List Int) (a1 : Option Addr) (len1 cap1 : Nat) (z1 : List Int) (w : World) (w0 : (a0 = none ∧ len0 = 0 ∧ cap0 = 0 ∧ z0 = []) ∨ ∃ x, a0 = some x ∧ len0 ≤ cap0 ∧ cap0 ≤ maxLen ∧ z0.length = cap0 ∧ (∀ i, i < z0.length → w.cell? (x.add i) = some (.int .u8 (z0.getD i 0))) ∧ ∀ n ∈ z0, (Lit.int .u8 n).wf = true) (y0 : len0 * 1 ≤ 140737488351232) (w1 : (a1 = none ∧ len1 = 0 ∧ cap1 = 0 ∧ z1 = []) ∨ ∃ x, a1 = some x ∧ len1 ≤ cap1 ∧ cap1 ≤ maxLen ∧ z1.length = cap1 ∧ (∀ i, i < z1.length → w.cell? (x.add i) = some (.int .u8 (z1.getD i 0))) ∧ ∀ n ∈ z1, (Lit.int .u8 n).wf = true) (y1 : len1 * 1 ≤ 140737488351232) :
    Calls Try.prog 11 #[.slice a0 len0 cap0, .slice a1 len1 cap1] w fun e w' => e = .returned (.bool true) ∧ Below w.heap.size w w' := by
  obtain ⟨l0, rfl, hr0, hm0, hw0, hc0⟩ := ReadsInt.ofRowC w0
  obtain ⟨l1, rfl, hr1, hm1, hw1, hc1⟩ := ReadsInt.ofRowC w1
  obtain ⟨k, h⟩ := P l0 l1 hm0 y0 hw0 hm1 y1 hw1
  refine (laws_FnNums.calls k _ _ l0 _ _ l1 true w (Kd.C_of_reads (d := (0 : Int)) (h1 := fun _ => rfl) hr0) hc0 (Kd.C_of_reads (d := (0 : Int)) (h1 := fun _ => rfl) hr1) hc1 h).mono ?_
  rintro e w' ⟨rfl, hd⟩
  exact ⟨rfl, hd⟩

end Go.Proofs.Ytajfpfmbmkmafaa.PFnNums
