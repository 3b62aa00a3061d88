-- Written by a program of this project (myprint.py, by way of the kit's printer). Not trusted: Lean checks it.
import Derived.Test.YtpcimkpklmemnaaPFnHavesx0
import Derived.Test.YtpcimkpklmemnaaPFnHavesx2
import Derived.Test.YtpcimkpklmemnaaPFnHavesx3
import Derived.Test.YtpcimkpklmemnaaPFnHavesx4
import Derived.Test.YtpcimkpklmemnaaPFnHavesx5
import Derived.Test.YtpcimkpklmemnaaPFnHavesx7
import Derived.Test.YtpcimkpklmemnaaPFnHavesx8
namespace Go.Proofs.Ytpcimkpklmemnaa.PFnHaves
open Go.RowKit Go.Proofs.YtpcimkpklmemnaaW.PrintWords Go.Proofs.YtpcimkpklmemnaaW.PrintLast Go.Proofs.YtpcimkpklmemnaaW.PrintMore
attribute [local go_sem] max2_int min2_int max_two min_two max_three min_three max_four min_four   -- for this text's walks alone
set_option linter.unusedVariables false
set_option linter.unusedSimpArgs false

/-! ### laws_FnHaves: function 8 -/
mutual
def laws_FnHaves.j0 : Nat → List Int → List (S56) → Int → List (S37) → Bool → List (S37) → Bool → Option (Bool)
  | 0, _, _, _, _, _, _, _ => none
  | k + 1, x1, x5, x6, x7, x8, x9, x68 => if x68 = true then (none) else (laws_FnHaves.l0 k x1 x5 x6 x7 x8 x9 (x7.length : Int) 0)
def laws_FnHaves.l0 : Nat → List Int → List (S56) → Int → List (S37) → Bool → List (S37) → Int → Int → Option (Bool)
  | 0, _, _, _, _, _, _, _, _ => none
  | k + 1, x1, x5, x6, x7, x8, x9, x70, x71 => if x71 < x70 then (if 0 ≤ x71 then (if x71 < (x7.length : Int) then (if x71 < (x9.length : Int) then (if ((rd_T37 x7 x71).f0) = ((rd_T37 x9 x71).f0) then (if ((rd_T37 x7 x71).f1) = ((rd_T37 x9 x71).f1) then ((laws_sameHaves.f k ((rd_T37 x7 x71).f2) ((rd_T37 x9 x71).f2)).bind fun t379 => (if t379 = true then (laws_FnHaves.l0 k x1 x5 x6 x7 x8 x9 x70 (wrap64 (x71 + 1))) else (none))) else (none)) else (none)) else (none)) else (none)) else (none)) else (if x8 = true then (laws_FnHaves.l1 k x1 x5 x6 ([] : List (S56)) 1 x7 (x7.length : Int) 0) else (laws_FnHaves.j3 k x1))
def laws_FnHaves.j3 : Nat → List Int → Option (Bool)
  | 0, _ => none
  | k + 1, x1 => (spec_DrawMergeHaves.f k x1).bind fun bt387 => ((impl_MergeHaves.f k bt387.1 bt387.2).bind fun bt393 => ((spec_MergeHaves.f k bt387.1 bt387.2).bind fun bt397 => (if (bt393.2 != bt397.2) = true then (none) else ((laws_sameHaves.f k bt393.1 bt397.1).bind fun t401 => (if t401 = true then ((impl_GoodHaves.f k bt387.1).bind fun t402 => ((spec_GoodHaves.f k bt387.1).bind fun t403 => (laws_FnHaves.j4 k x1 bt387.1 bt387.2 bt393.1 bt393.2 (t402 != t403)))) else (none))))))
def laws_FnHaves.j4 : Nat → List Int → List (S56) → List (S56) → List (S56) → Bool → Bool → Option (Bool)
  | 0, _, _, _, _, _, _ => none
  | k + 1, x1, x16, x17, x18, x19, x184 => if x184 = true then (none) else (if x19 = true then ((impl_MergeHaves.f k x17 x16).bind fun bt404 => (if bt404.2 = true then ((laws_sameHaves.f k bt404.1 x18).bind fun t408 => (laws_FnHaves.j5 k x1 x16 x17 x18 (!t408))) else (none))) else ((spec_DrawSeqFor.f k x1).bind fun bt423 => ((impl_SeqFor.f k bt423.1 bt423.2).bind fun bt427 => ((spec_SeqFor.f k bt423.1 bt423.2).bind fun bt429 => (if (bt427.2 == bt429.2) = true then (some (bt427.1 == bt429.1)) else (none))))))
def laws_FnHaves.j5 : Nat → List Int → List (S56) → List (S56) → List (S56) → Bool → Option (Bool)
  | 0, _, _, _, _, _ => none
  | k + 1, x1, x16, x17, x18, x199 => if x199 = true then (none) else (laws_FnHaves.l2 k x1 x16 x17 x18 (x18.length : Int) 0)
def laws_FnHaves.l2 : Nat → List Int → List (S56) → List (S56) → List (S56) → Int → Int → Option (Bool)
  | 0, _, _, _, _, _, _ => none
  | k + 1, x1, x16, x17, x200, x201, x202 => if x202 < x201 then (if 0 ≤ x202 then (if x202 < (x200.length : Int) then ((impl_SeqFor.f k x16 ((rd_T56 x200 x202).f0)).bind fun bt419 => ((impl_SeqFor.f k x17 ((rd_T56 x200 x202).f0)).bind fun bt421 => (if bt419.2 = true then (if bt421.2 = true then (if ((rd_T56 x200 x202).f1) = bt419.1 then (if ((rd_T56 x200 x202).f1) < bt419.1 then (none) else (if ((rd_T56 x200 x202).f1) < bt421.1 then (none) else (laws_FnHaves.l2 k x1 x16 x17 x200 x201 (wrap64 (x202 + 1))))) else (if ((rd_T56 x200 x202).f1) = bt421.1 then (if ((rd_T56 x200 x202).f1) < bt419.1 then (none) else (if ((rd_T56 x200 x202).f1) < bt421.1 then (none) else (laws_FnHaves.l2 k x1 x16 x17 x200 x201 (wrap64 (x202 + 1))))) else (none))) else (none)) else (none)))) else (none)) else (none)) else ((spec_DrawSeqFor.f k x1).bind fun bt409 => ((impl_SeqFor.f k bt409.1 bt409.2).bind fun bt413 => ((spec_SeqFor.f k bt409.1 bt409.2).bind fun bt415 => (if (bt413.2 == bt415.2) = true then (some (bt413.1 == bt415.1)) else (none)))))
def laws_FnHaves.l1 : Nat → List Int → List (S56) → Int → List (S56) → Int → List (S37) → Int → Int → Option (Bool)
  | 0, _, _, _, _, _, _, _, _ => none
  | k + 1, x1, x5, x6, x12, x13, x114, x115, x116 => if x116 < x115 then (if 0 ≤ x116 then (if x116 < (x114.length : Int) then ((impl_GoodSummary.f k ((rd_T37 x114 x116).f0) ((rd_T37 x114 x116).f1) ((rd_T37 x114 x116).f2)).bind fun t382 => (if t382 = true then (if ((rd_T37 x114 x116).f0) = x13 then (if (((rd_T37 x114 x116).f2).length : Int) > x6 then (none) else (if x12.length + ((rd_T37 x114 x116).f2).length < 8796093022208 then (laws_FnHaves.l1 k x1 x5 x6 (x12 ++ ((rd_T37 x114 x116).f2)) (wrap64 (((rd_T37 x114 x116).f1) + 1)) x114 x115 (wrap64 (x116 + 1))) else (none))) else (none)) else (none))) else (none)) else (none)) else ((laws_sameHaves.f k x12 x5).bind fun t386 => (if t386 = true then (if x13 = 1001 then (laws_FnHaves.j3 k x1) else (none)) else (none)))
end
def laws_FnHaves.f (k : Nat) (l0 : List Int) (l1 : List Int) : Option (Bool) := if (wrap64 ((l0.length : Int) + (l1.length : Int))) > 1048576 then (some true) else ((spec_DrawCutHaves.f k l0).bind fun bt361 => ((impl_CutHaves.f k bt361.1 bt361.2).bind fun bt365 => ((spec_CutHaves.f k bt361.1 bt361.2).bind fun bt369 => (if (bt365.2 != bt369.2) = true then (none) else (laws_FnHaves.j0 k l1 bt361.1 bt361.2 bt365.1 bt365.2 bt369.1 ((bt365.1.length : Int) != (bt369.1.length : Int)))))))
theorem laws_FnHaves.mono_l : ∀ k, (∀ y0 y1 y2 y3 y4 y5 y6, LeO (laws_FnHaves.j0 k y0 y1 y2 y3 y4 y5 y6) (laws_FnHaves.j0 (k + 1) y0 y1 y2 y3 y4 y5 y6)) ∧ (∀ y0 y1 y2 y3 y4 y5 y6 y7, LeO (laws_FnHaves.l0 k y0 y1 y2 y3 y4 y5 y6 y7) (laws_FnHaves.l0 (k + 1) y0 y1 y2 y3 y4 y5 y6 y7)) ∧ (∀ y0, LeO (laws_FnHaves.j3 k y0) (laws_FnHaves.j3 (k + 1) y0)) ∧ (∀ y0 y1 y2 y3 y4 y5, LeO (laws_FnHaves.j4 k y0 y1 y2 y3 y4 y5) (laws_FnHaves.j4 (k + 1) y0 y1 y2 y3 y4 y5)) ∧ (∀ y0 y1 y2 y3 y4, LeO (laws_FnHaves.j5 k y0 y1 y2 y3 y4) (laws_FnHaves.j5 (k + 1) y0 y1 y2 y3 y4)) ∧ (∀ y0 y1 y2 y3 y4 y5, LeO (laws_FnHaves.l2 k y0 y1 y2 y3 y4 y5) (laws_FnHaves.l2 (k + 1) y0 y1 y2 y3 y4 y5)) ∧ (∀ y0 y1 y2 y3 y4 y5 y6 y7, LeO (laws_FnHaves.l1 k y0 y1 y2 y3 y4 y5 y6 y7) (laws_FnHaves.l1 (k + 1) y0 y1 y2 y3 y4 y5 y6 y7))
  | 0 => ⟨fun _ _ _ _ _ _ _ r h => by simp [laws_FnHaves.j0] at h, fun _ _ _ _ _ _ _ _ r h => by simp [laws_FnHaves.l0] at h, fun _ r h => by simp [laws_FnHaves.j3] at h, fun _ _ _ _ _ _ r h => by simp [laws_FnHaves.j4] at h, fun _ _ _ _ _ r h => by simp [laws_FnHaves.j5] at h, fun _ _ _ _ _ _ r h => by simp [laws_FnHaves.l2] at h, fun _ _ _ _ _ _ _ _ r h => by simp [laws_FnHaves.l1] at h⟩
  | k + 1 => by
    obtain ⟨ih0, ih1, ih2, ih3, ih4, ih5, ih6⟩ := laws_FnHaves.mono_l k
    refine ⟨?_, ?_, ?_, ?_, ?_, ?_, ?_⟩
    · intro y0 y1 y2 y3 y4 y5 y6
      unfold laws_FnHaves.j0
      repeat' first
      | (with_reducible exact ih0 _ _ _ _ _ _ _)
      | (with_reducible exact ih1 _ _ _ _ _ _ _ _)
      | (with_reducible exact ih2 _)
      | (with_reducible exact ih3 _ _ _ _ _ _)
      | (with_reducible exact ih4 _ _ _ _ _)
      | (with_reducible exact ih5 _ _ _ _ _ _)
      | (with_reducible exact ih6 _ _ _ _ _ _ _ _)
      | (with_reducible exact impl_CutHaves.mono _ _ _)
      | (with_reducible exact impl_GoodHaves.mono _ _)
      | (with_reducible exact impl_GoodSummary.mono _ _ _ _)
      | (with_reducible exact impl_MergeHaves.mono _ _ _)
      | (with_reducible exact impl_SeqFor.mono _ _ _)
      | (with_reducible exact laws_sameHaves.mono _ _ _)
      | (with_reducible exact spec_CutHaves.mono _ _ _)
      | (with_reducible exact spec_DrawCutHaves.mono _ _)
      | (with_reducible exact spec_DrawMergeHaves.mono _ _)
      | (with_reducible exact spec_DrawSeqFor.mono _ _)
      | (with_reducible exact spec_GoodHaves.mono _ _)
      | (with_reducible exact spec_MergeHaves.mono _ _ _)
      | (with_reducible exact spec_SeqFor.mono _ _ _)
      | (with_reducible exact LeO.refl _)
      | (with_reducible exact LeO.none _)
      | (with_reducible refine LeO.ite ?_ ?_)
      | (with_reducible refine LeO.bind ?_ (fun _ => ?_))
      | exact ih0 _ _ _ _ _ _ _
      | exact ih1 _ _ _ _ _ _ _ _
      | exact ih2 _
      | exact ih3 _ _ _ _ _ _
      | exact ih4 _ _ _ _ _
      | exact ih5 _ _ _ _ _ _
      | exact ih6 _ _ _ _ _ _ _ _
      | exact impl_CutHaves.mono _ _ _
      | exact impl_GoodHaves.mono _ _
      | exact impl_GoodSummary.mono _ _ _ _
      | exact impl_MergeHaves.mono _ _ _
      | exact impl_SeqFor.mono _ _ _
      | exact laws_sameHaves.mono _ _ _
      | exact spec_CutHaves.mono _ _ _
      | exact spec_DrawCutHaves.mono _ _
      | exact spec_DrawMergeHaves.mono _ _
      | exact spec_DrawSeqFor.mono _ _
      | exact spec_GoodHaves.mono _ _
      | exact spec_MergeHaves.mono _ _ _
      | exact spec_SeqFor.mono _ _ _
      | exact LeO.none _
      | refine LeO.ite ?_ ?_
      | refine LeO.bind ?_ (fun _ => ?_)
    · intro y0 y1 y2 y3 y4 y5 y6 y7
      unfold laws_FnHaves.l0
      repeat' first
      | (with_reducible exact ih0 _ _ _ _ _ _ _)
      | (with_reducible exact ih1 _ _ _ _ _ _ _ _)
      | (with_reducible exact ih2 _)
      | (with_reducible exact ih3 _ _ _ _ _ _)
      | (with_reducible exact ih4 _ _ _ _ _)
      | (with_reducible exact ih5 _ _ _ _ _ _)
      | (with_reducible exact ih6 _ _ _ _ _ _ _ _)
      | (with_reducible exact impl_CutHaves.mono _ _ _)
      | (with_reducible exact impl_GoodHaves.mono _ _)
      | (with_reducible exact impl_GoodSummary.mono _ _ _ _)
      | (with_reducible exact impl_MergeHaves.mono _ _ _)
      | (with_reducible exact impl_SeqFor.mono _ _ _)
      | (with_reducible exact laws_sameHaves.mono _ _ _)
      | (with_reducible exact spec_CutHaves.mono _ _ _)
      | (with_reducible exact spec_DrawCutHaves.mono _ _)
      | (with_reducible exact spec_DrawMergeHaves.mono _ _)
      | (with_reducible exact spec_DrawSeqFor.mono _ _)
      | (with_reducible exact spec_GoodHaves.mono _ _)
      | (with_reducible exact spec_MergeHaves.mono _ _ _)
      | (with_reducible exact spec_SeqFor.mono _ _ _)
      | (with_reducible exact LeO.refl _)
      | (with_reducible exact LeO.none _)
      | (with_reducible refine LeO.ite ?_ ?_)
      | (with_reducible refine LeO.bind ?_ (fun _ => ?_))
      | exact ih0 _ _ _ _ _ _ _
      | exact ih1 _ _ _ _ _ _ _ _
      | exact ih2 _
      | exact ih3 _ _ _ _ _ _
      | exact ih4 _ _ _ _ _
      | exact ih5 _ _ _ _ _ _
      | exact ih6 _ _ _ _ _ _ _ _
      | exact impl_CutHaves.mono _ _ _
      | exact impl_GoodHaves.mono _ _
      | exact impl_GoodSummary.mono _ _ _ _
      | exact impl_MergeHaves.mono _ _ _
      | exact impl_SeqFor.mono _ _ _
      | exact laws_sameHaves.mono _ _ _
      | exact spec_CutHaves.mono _ _ _
      | exact spec_DrawCutHaves.mono _ _
      | exact spec_DrawMergeHaves.mono _ _
      | exact spec_DrawSeqFor.mono _ _
      | exact spec_GoodHaves.mono _ _
      | exact spec_MergeHaves.mono _ _ _
      | exact spec_SeqFor.mono _ _ _
      | exact LeO.none _
      | refine LeO.ite ?_ ?_
      | refine LeO.bind ?_ (fun _ => ?_)
    · intro y0
      unfold laws_FnHaves.j3
      repeat' first
      | (with_reducible exact ih0 _ _ _ _ _ _ _)
      | (with_reducible exact ih1 _ _ _ _ _ _ _ _)
      | (with_reducible exact ih2 _)
      | (with_reducible exact ih3 _ _ _ _ _ _)
      | (with_reducible exact ih4 _ _ _ _ _)
      | (with_reducible exact ih5 _ _ _ _ _ _)
      | (with_reducible exact ih6 _ _ _ _ _ _ _ _)
      | (with_reducible exact impl_CutHaves.mono _ _ _)
      | (with_reducible exact impl_GoodHaves.mono _ _)
      | (with_reducible exact impl_GoodSummary.mono _ _ _ _)
      | (with_reducible exact impl_MergeHaves.mono _ _ _)
      | (with_reducible exact impl_SeqFor.mono _ _ _)
      | (with_reducible exact laws_sameHaves.mono _ _ _)
      | (with_reducible exact spec_CutHaves.mono _ _ _)
      | (with_reducible exact spec_DrawCutHaves.mono _ _)
      | (with_reducible exact spec_DrawMergeHaves.mono _ _)
      | (with_reducible exact spec_DrawSeqFor.mono _ _)
      | (with_reducible exact spec_GoodHaves.mono _ _)
      | (with_reducible exact spec_MergeHaves.mono _ _ _)
      | (with_reducible exact spec_SeqFor.mono _ _ _)
      | (with_reducible exact LeO.refl _)
      | (with_reducible exact LeO.none _)
      | (with_reducible refine LeO.ite ?_ ?_)
      | (with_reducible refine LeO.bind ?_ (fun _ => ?_))
      | exact ih0 _ _ _ _ _ _ _
      | exact ih1 _ _ _ _ _ _ _ _
      | exact ih2 _
      | exact ih3 _ _ _ _ _ _
      | exact ih4 _ _ _ _ _
      | exact ih5 _ _ _ _ _ _
      | exact ih6 _ _ _ _ _ _ _ _
      | exact impl_CutHaves.mono _ _ _
      | exact impl_GoodHaves.mono _ _
      | exact impl_GoodSummary.mono _ _ _ _
      | exact impl_MergeHaves.mono _ _ _
      | exact impl_SeqFor.mono _ _ _
      | exact laws_sameHaves.mono _ _ _
      | exact spec_CutHaves.mono _ _ _
      | exact spec_DrawCutHaves.mono _ _
      | exact spec_DrawMergeHaves.mono _ _
      | exact spec_DrawSeqFor.mono _ _
      | exact spec_GoodHaves.mono _ _
      | exact spec_MergeHaves.mono _ _ _
      | exact spec_SeqFor.mono _ _ _
      | exact LeO.none _
      | refine LeO.ite ?_ ?_
      | refine LeO.bind ?_ (fun _ => ?_)
    · intro y0 y1 y2 y3 y4 y5
      unfold laws_FnHaves.j4
      repeat' first
      | (with_reducible exact ih0 _ _ _ _ _ _ _)
      | (with_reducible exact ih1 _ _ _ _ _ _ _ _)
      | (with_reducible exact ih2 _)
      | (with_reducible exact ih3 _ _ _ _ _ _)
      | (with_reducible exact ih4 _ _ _ _ _)
      | (with_reducible exact ih5 _ _ _ _ _ _)
      | (with_reducible exact ih6 _ _ _ _ _ _ _ _)
      | (with_reducible exact impl_CutHaves.mono _ _ _)
      | (with_reducible exact impl_GoodHaves.mono _ _)
      | (with_reducible exact impl_GoodSummary.mono _ _ _ _)
      | (with_reducible exact impl_MergeHaves.mono _ _ _)
      | (with_reducible exact impl_SeqFor.mono _ _ _)
      | (with_reducible exact laws_sameHaves.mono _ _ _)
      | (with_reducible exact spec_CutHaves.mono _ _ _)
      | (with_reducible exact spec_DrawCutHaves.mono _ _)
      | (with_reducible exact spec_DrawMergeHaves.mono _ _)
      | (with_reducible exact spec_DrawSeqFor.mono _ _)
      | (with_reducible exact spec_GoodHaves.mono _ _)
      | (with_reducible exact spec_MergeHaves.mono _ _ _)
      | (with_reducible exact spec_SeqFor.mono _ _ _)
      | (with_reducible exact LeO.refl _)
      | (with_reducible exact LeO.none _)
      | (with_reducible refine LeO.ite ?_ ?_)
      | (with_reducible refine LeO.bind ?_ (fun _ => ?_))
      | exact ih0 _ _ _ _ _ _ _
      | exact ih1 _ _ _ _ _ _ _ _
      | exact ih2 _
      | exact ih3 _ _ _ _ _ _
      | exact ih4 _ _ _ _ _
      | exact ih5 _ _ _ _ _ _
      | exact ih6 _ _ _ _ _ _ _ _
      | exact impl_CutHaves.mono _ _ _
      | exact impl_GoodHaves.mono _ _
      | exact impl_GoodSummary.mono _ _ _ _
      | exact impl_MergeHaves.mono _ _ _
      | exact impl_SeqFor.mono _ _ _
      | exact laws_sameHaves.mono _ _ _
      | exact spec_CutHaves.mono _ _ _
      | exact spec_DrawCutHaves.mono _ _
      | exact spec_DrawMergeHaves.mono _ _
      | exact spec_DrawSeqFor.mono _ _
      | exact spec_GoodHaves.mono _ _
      | exact spec_MergeHaves.mono _ _ _
      | exact spec_SeqFor.mono _ _ _
      | exact LeO.none _
      | refine LeO.ite ?_ ?_
      | refine LeO.bind ?_ (fun _ => ?_)
    · intro y0 y1 y2 y3 y4
      unfold laws_FnHaves.j5
      repeat' first
      | (with_reducible exact ih0 _ _ _ _ _ _ _)
      | (with_reducible exact ih1 _ _ _ _ _ _ _ _)
      | (with_reducible exact ih2 _)
      | (with_reducible exact ih3 _ _ _ _ _ _)
      | (with_reducible exact ih4 _ _ _ _ _)
      | (with_reducible exact ih5 _ _ _ _ _ _)
      | (with_reducible exact ih6 _ _ _ _ _ _ _ _)
      | (with_reducible exact impl_CutHaves.mono _ _ _)
      | (with_reducible exact impl_GoodHaves.mono _ _)
      | (with_reducible exact impl_GoodSummary.mono _ _ _ _)
      | (with_reducible exact impl_MergeHaves.mono _ _ _)
      | (with_reducible exact impl_SeqFor.mono _ _ _)
      | (with_reducible exact laws_sameHaves.mono _ _ _)
      | (with_reducible exact spec_CutHaves.mono _ _ _)
      | (with_reducible exact spec_DrawCutHaves.mono _ _)
      | (with_reducible exact spec_DrawMergeHaves.mono _ _)
      | (with_reducible exact spec_DrawSeqFor.mono _ _)
      | (with_reducible exact spec_GoodHaves.mono _ _)
      | (with_reducible exact spec_MergeHaves.mono _ _ _)
      | (with_reducible exact spec_SeqFor.mono _ _ _)
      | (with_reducible exact LeO.refl _)
      | (with_reducible exact LeO.none _)
      | (with_reducible refine LeO.ite ?_ ?_)
      | (with_reducible refine LeO.bind ?_ (fun _ => ?_))
      | exact ih0 _ _ _ _ _ _ _
      | exact ih1 _ _ _ _ _ _ _ _
      | exact ih2 _
      | exact ih3 _ _ _ _ _ _
      | exact ih4 _ _ _ _ _
      | exact ih5 _ _ _ _ _ _
      | exact ih6 _ _ _ _ _ _ _ _
      | exact impl_CutHaves.mono _ _ _
      | exact impl_GoodHaves.mono _ _
      | exact impl_GoodSummary.mono _ _ _ _
      | exact impl_MergeHaves.mono _ _ _
      | exact impl_SeqFor.mono _ _ _
      | exact laws_sameHaves.mono _ _ _
      | exact spec_CutHaves.mono _ _ _
      | exact spec_DrawCutHaves.mono _ _
      | exact spec_DrawMergeHaves.mono _ _
      | exact spec_DrawSeqFor.mono _ _
      | exact spec_GoodHaves.mono _ _
      | exact spec_MergeHaves.mono _ _ _
      | exact spec_SeqFor.mono _ _ _
      | exact LeO.none _
      | refine LeO.ite ?_ ?_
      | refine LeO.bind ?_ (fun _ => ?_)
    · intro y0 y1 y2 y3 y4 y5
      unfold laws_FnHaves.l2
      repeat' first
      | (with_reducible exact ih0 _ _ _ _ _ _ _)
      | (with_reducible exact ih1 _ _ _ _ _ _ _ _)
      | (with_reducible exact ih2 _)
      | (with_reducible exact ih3 _ _ _ _ _ _)
      | (with_reducible exact ih4 _ _ _ _ _)
      | (with_reducible exact ih5 _ _ _ _ _ _)
      | (with_reducible exact ih6 _ _ _ _ _ _ _ _)
      | (with_reducible exact impl_CutHaves.mono _ _ _)
      | (with_reducible exact impl_GoodHaves.mono _ _)
      | (with_reducible exact impl_GoodSummary.mono _ _ _ _)
      | (with_reducible exact impl_MergeHaves.mono _ _ _)
      | (with_reducible exact impl_SeqFor.mono _ _ _)
      | (with_reducible exact laws_sameHaves.mono _ _ _)
      | (with_reducible exact spec_CutHaves.mono _ _ _)
      | (with_reducible exact spec_DrawCutHaves.mono _ _)
      | (with_reducible exact spec_DrawMergeHaves.mono _ _)
      | (with_reducible exact spec_DrawSeqFor.mono _ _)
      | (with_reducible exact spec_GoodHaves.mono _ _)
      | (with_reducible exact spec_MergeHaves.mono _ _ _)
      | (with_reducible exact spec_SeqFor.mono _ _ _)
      | (with_reducible exact LeO.refl _)
      | (with_reducible exact LeO.none _)
      | (with_reducible refine LeO.ite ?_ ?_)
      | (with_reducible refine LeO.bind ?_ (fun _ => ?_))
      | exact ih0 _ _ _ _ _ _ _
      | exact ih1 _ _ _ _ _ _ _ _
      | exact ih2 _
      | exact ih3 _ _ _ _ _ _
      | exact ih4 _ _ _ _ _
      | exact ih5 _ _ _ _ _ _
      | exact ih6 _ _ _ _ _ _ _ _
      | exact impl_CutHaves.mono _ _ _
      | exact impl_GoodHaves.mono _ _
      | exact impl_GoodSummary.mono _ _ _ _
      | exact impl_MergeHaves.mono _ _ _
      | exact impl_SeqFor.mono _ _ _
      | exact laws_sameHaves.mono _ _ _
      | exact spec_CutHaves.mono _ _ _
      | exact spec_DrawCutHaves.mono _ _
      | exact spec_DrawMergeHaves.mono _ _
      | exact spec_DrawSeqFor.mono _ _
      | exact spec_GoodHaves.mono _ _
      | exact spec_MergeHaves.mono _ _ _
      | exact spec_SeqFor.mono _ _ _
      | exact LeO.none _
      | refine LeO.ite ?_ ?_
      | refine LeO.bind ?_ (fun _ => ?_)
    · intro y0 y1 y2 y3 y4 y5 y6 y7
      unfold laws_FnHaves.l1
      repeat' first
      | (with_reducible exact ih0 _ _ _ _ _ _ _)
      | (with_reducible exact ih1 _ _ _ _ _ _ _ _)
      | (with_reducible exact ih2 _)
      | (with_reducible exact ih3 _ _ _ _ _ _)
      | (with_reducible exact ih4 _ _ _ _ _)
      | (with_reducible exact ih5 _ _ _ _ _ _)
      | (with_reducible exact ih6 _ _ _ _ _ _ _ _)
      | (with_reducible exact impl_CutHaves.mono _ _ _)
      | (with_reducible exact impl_GoodHaves.mono _ _)
      | (with_reducible exact impl_GoodSummary.mono _ _ _ _)
      | (with_reducible exact impl_MergeHaves.mono _ _ _)
      | (with_reducible exact impl_SeqFor.mono _ _ _)
      | (with_reducible exact laws_sameHaves.mono _ _ _)
      | (with_reducible exact spec_CutHaves.mono _ _ _)
      | (with_reducible exact spec_DrawCutHaves.mono _ _)
      | (with_reducible exact spec_DrawMergeHaves.mono _ _)
      | (with_reducible exact spec_DrawSeqFor.mono _ _)
      | (with_reducible exact spec_GoodHaves.mono _ _)
      | (with_reducible exact spec_MergeHaves.mono _ _ _)
      | (with_reducible exact spec_SeqFor.mono _ _ _)
      | (with_reducible exact LeO.refl _)
      | (with_reducible exact LeO.none _)
      | (with_reducible refine LeO.ite ?_ ?_)
      | (with_reducible refine LeO.bind ?_ (fun _ => ?_))
      | exact ih0 _ _ _ _ _ _ _
      | exact ih1 _ _ _ _ _ _ _ _
      | exact ih2 _
      | exact ih3 _ _ _ _ _ _
      | exact ih4 _ _ _ _ _
      | exact ih5 _ _ _ _ _ _
      | exact ih6 _ _ _ _ _ _ _ _
      | exact impl_CutHaves.mono _ _ _
      | exact impl_GoodHaves.mono _ _
      | exact impl_GoodSummary.mono _ _ _ _
      | exact impl_MergeHaves.mono _ _ _
      | exact impl_SeqFor.mono _ _ _
      | exact laws_sameHaves.mono _ _ _
      | exact spec_CutHaves.mono _ _ _
      | exact spec_DrawCutHaves.mono _ _
      | exact spec_DrawMergeHaves.mono _ _
      | exact spec_DrawSeqFor.mono _ _
      | exact spec_GoodHaves.mono _ _
      | exact spec_MergeHaves.mono _ _ _
      | exact spec_SeqFor.mono _ _ _
      | exact LeO.none _
      | refine LeO.ite ?_ ?_
      | refine LeO.bind ?_ (fun _ => ?_)
theorem laws_FnHaves.mono : ∀ a0 a1 k, LeO (laws_FnHaves.f k a0 a1) (laws_FnHaves.f (k + 1) a0 a1) := by
  intro a0 a1 k
  obtain ⟨ih0, ih1, ih2, ih3, ih4, ih5, ih6⟩ := laws_FnHaves.mono_l k
  unfold laws_FnHaves.f
  repeat' first
      | (with_reducible exact ih0 _ _ _ _ _ _ _)
      | (with_reducible exact ih1 _ _ _ _ _ _ _ _)
      | (with_reducible exact ih2 _)
      | (with_reducible exact ih3 _ _ _ _ _ _)
      | (with_reducible exact ih4 _ _ _ _ _)
      | (with_reducible exact ih5 _ _ _ _ _ _)
      | (with_reducible exact ih6 _ _ _ _ _ _ _ _)
      | (with_reducible exact impl_CutHaves.mono _ _ _)
      | (with_reducible exact impl_GoodHaves.mono _ _)
      | (with_reducible exact impl_GoodSummary.mono _ _ _ _)
      | (with_reducible exact impl_MergeHaves.mono _ _ _)
      | (with_reducible exact impl_SeqFor.mono _ _ _)
      | (with_reducible exact laws_sameHaves.mono _ _ _)
      | (with_reducible exact spec_CutHaves.mono _ _ _)
      | (with_reducible exact spec_DrawCutHaves.mono _ _)
      | (with_reducible exact spec_DrawMergeHaves.mono _ _)
      | (with_reducible exact spec_DrawSeqFor.mono _ _)
      | (with_reducible exact spec_GoodHaves.mono _ _)
      | (with_reducible exact spec_MergeHaves.mono _ _ _)
      | (with_reducible exact spec_SeqFor.mono _ _ _)
      | (with_reducible exact LeO.refl _)
      | (with_reducible exact LeO.none _)
      | (with_reducible refine LeO.ite ?_ ?_)
      | (with_reducible refine LeO.bind ?_ (fun _ => ?_))
      | exact ih0 _ _ _ _ _ _ _
      | exact ih1 _ _ _ _ _ _ _ _
      | exact ih2 _
      | exact ih3 _ _ _ _ _ _
      | exact ih4 _ _ _ _ _
      | exact ih5 _ _ _ _ _ _
      | exact ih6 _ _ _ _ _ _ _ _
      | exact impl_CutHaves.mono _ _ _
      | exact impl_GoodHaves.mono _ _
      | exact impl_GoodSummary.mono _ _ _ _
      | exact impl_MergeHaves.mono _ _ _
      | exact impl_SeqFor.mono _ _ _
      | exact laws_sameHaves.mono _ _ _
      | exact spec_CutHaves.mono _ _ _
      | exact spec_DrawCutHaves.mono _ _
      | exact spec_DrawMergeHaves.mono _ _
      | exact spec_DrawSeqFor.mono _ _
      | exact spec_GoodHaves.mono _ _
      | exact spec_MergeHaves.mono _ _ _
      | exact spec_SeqFor.mono _ _ _
      | exact LeO.none _
      | refine LeO.ite ?_ ?_
      | refine LeO.bind ?_ (fun _ => ?_)
def laws_FnHaves.T11 : Bool × List (List Nat × List Nat) := (true, [([], []), ([], []), ([0, 1], [0, 1]), ([2], [2]), ([3], [3]), ([], []), ([], []), ([5, 6], [5, 6]), ([7], [7]), ([8], [8]), ([4, 9], [4, 9]), ([10], [10]), ([11], [11]), ([11], [11]), ([12, 13, 11], [11, 12, 13]), ([14, 11], [11, 14]), ([15, 11], [11, 15]), ([11], [11]), ([11], [11]), ([17, 18, 11], [11, 17, 18]), ([19, 11], [11, 19]), ([20, 11], [11, 20]), ([16, 21, 11], [11, 16, 21]), ([11, 22], [11, 22]), ([23, 11], [23]), ([24], [24]), ([24], [24]), ([25, 26, 24], [24, 25, 26]), ([27, 24], [24, 27]), ([28, 24], [24, 28]), ([24], [24]), ([24], [24]), ([30, 31, 24], [24, 30, 31]), ([32, 24], [24, 32]), ([33, 24], [24, 33]), ([29, 34, 24, 24], [24, 29, 34]), ([35, 24], [24, 35]), ([24, 36], [24, 36])])
def laws_FnHaves.B11 : List Nat := [0, 0, 3, 7, 15, 0, 0, 96, 224, 480, 1023, 2047, 4095, 4095, 16383, 32767, 65535, 4095, 4095, 397311, 921599, 1970175, 4194303, 8388607, 16777215, 33554431, 33554431, 134217727, 268435455, 536870911, 33554431, 33554431, 3254779903, 7549747199, 16139681791, 34359738367, 68719476735, 137438953471]
theorem laws_FnHaves.tab11 : rtab .any (opsOf Try.f8 11) = laws_FnHaves.T11 := by kernel_rfl
theorem laws_FnHaves.bits11 : waitsOk laws_FnHaves.T11.2 laws_FnHaves.B11 = true := by kernel_rfl
set_option maxHeartbeats 8000000 in
set_option maxRecDepth 100000 in
theorem laws_FnHaves.calls (k : Nat) (A0 : Option Addr) (c0 : Nat) (l0 : List Int) (A1 : Option Addr) (c1 : Nat) (l1 : List Int) (r : Bool) (w : World) (hr0 : Kd.C (Kd.int .u8) w A0 l0.length l0) (hc0 : l0.length ≤ c0) (hr1 : Kd.C (Kd.int .u8) w A1 l1.length l1) (hc1 : l1.length ≤ c1) (h : laws_FnHaves.f k l0 l1 = some r) :
    Calls Try.prog 8 #[.slice A0 l0.length c0, .slice A1 l1.length c1] w fun e w' => e = .returned (.bool r) ∧ Below w.heap.size w w' := by
  have hu37 := Try.underlying37
  have hu56 := Try.underlying56
  have HR0 := Aside0.mk hr0
  have HC0 := Aside0.mk hc0
  clear hr0 hc0
  have HR1 := Aside0.mk hr1
  have HC1 := Aside0.mk hc1
  clear hr1 hc1
  have HB := Aside0.mk (Below.refl w.heap.size w)
  have H : (if (wrap64 ((l0.length : Int) + (l1.length : Int))) > 1048576 then (some true) else ((spec_DrawCutHaves.f k l0).bind fun bt361 => ((impl_CutHaves.f k bt361.1 bt361.2).bind fun bt365 => ((spec_CutHaves.f k bt361.1 bt361.2).bind fun bt369 => (if (bt365.2 != bt369.2) = true then (none) else (laws_FnHaves.j0 k l1 bt361.1 bt361.2 bt365.1 bt365.2 bt369.1 ((bt365.1.length : Int) != (bt369.1.length : Int)))))))) = some r := h
  clear h
  by_cases c3 : (wrap64 ((l0.length : Int) + (l1.length : Int))) > 1048576
  · rw [if_pos c3] at H
    have c3b0 : decide (1048576 < (wrap64 ((l0.length : Int) + (l1.length : Int)))) = true := decide_eq_true c3
    clear c3
    as_aux_lemma =>
      obtain rfl := Option.some.inj H
      go_enter Try.func8, Try.ntmps8
      go_wp2
      go_ret
      exact ⟨by first | rfl | (simp [errW_none, errW_some] <;> rfl) | (simp [*, errW_none, errW_some] <;> rfl), by repeat (first | (with_reducible first | exact HB.out | apply below_alloc | apply pw_below_drewN | apply below_drew1) | exact HB.out)⟩
  · rw [if_neg c3] at H
    have c3b0 : decide (1048576 < (wrap64 ((l0.length : Int) + (l1.length : Int)))) = false := decide_eq_false c3
    clear c3
    replace H := Option.bind_eq_some_iff.mp H
    obtain ⟨⟨t361, t362⟩, A40, H⟩ := H
    replace H : ((impl_CutHaves.f k t361 t362).bind fun bt365 => ((spec_CutHaves.f k t361 t362).bind fun bt369 => (if (bt365.2 != bt369.2) = true then (none) else (laws_FnHaves.j0 k l1 t361 t362 bt365.1 bt365.2 bt369.1 ((bt365.1.length : Int) != (bt369.1.length : Int)))))) = some r := H
    have A4 := Aside0.mk A40
    clear A40
    replace H := Option.bind_eq_some_iff.mp H
    obtain ⟨⟨t365, t366⟩, A50, H⟩ := H
    replace H : ((spec_CutHaves.f k t361 t362).bind fun bt369 => (if (t366 != bt369.2) = true then (none) else (laws_FnHaves.j0 k l1 t361 t362 t365 t366 bt369.1 ((t365.length : Int) != (bt369.1.length : Int))))) = some r := H
    have A5 := Aside0.mk A50
    clear A50
    replace H := Option.bind_eq_some_iff.mp H
    obtain ⟨⟨t369, t370⟩, A60, H⟩ := H
    replace H : (if (t366 != t370) = true then (none) else (laws_FnHaves.j0 k l1 t361 t362 t365 t366 t369 ((t365.length : Int) != (t369.length : Int)))) = some r := H
    have A6 := Aside0.mk A60
    clear A60
    have HC7 := Aside0.mk H
    clear H
    go_enter Try.func8, Try.ntmps8
    go_upto_region 6 with (first | ((with_reducible refine gate_callee (f := 30) rfl ?_); refine goesL_ (some 44) rfl rfl Try.func30 (by kernel_rfl) rfl #[.slice A0 l0.length c0] rfl (by (try simp only [List.map_toArray, List.map_cons, List.map_nil]); first | done | rfl | (simp only [List.length_drop, List.length_take]; rfl)) ?_; (with_reducible refine (spec_DrawCutHaves.calls k _ _ l0 t361 t362 _ ?side1 ?side2 A4.out).mono ?_); (case side1 => repeat (first | exact HR0.out | (with_reducible refine Kd.C_alloc ?_ _) | (with_reducible refine Kd.C_drewN ?_ _) | (with_reducible refine Kd.C_drew ?_))); (case side2 => exact HC0.out); rintro e w8 ⟨v363, rfl, ho0, hb⟩; refine ⟨_, rfl, ?_⟩; have n0_ := Aside0.mk (Kd.R_lower ho0 (below_size (by repeat (first | (with_reducible first | exact HB.out | apply below_alloc | apply pw_below_drewN | apply below_drew1) | exact HB.out)))); have n1_ := Aside0.mk (below_step (by repeat (first | (with_reducible first | exact HB.out | apply below_alloc | apply pw_below_drewN | apply below_drew1) | exact HB.out)) hb); clear HB; have HO364 := n0_; have HB := n1_; clear n0_ n1_; (try clear hb); (try clear hb2); (try clear hk); (try clear hi); (try clear ho0); obtain ⟨Ao9, co9, eo9⟩ := Kd.R_slice HO364.out; subst eo9) | ((with_reducible refine gate_callee (f := 22) rfl ?_); refine goesL_ (some 50) rfl rfl Try.func22 (by kernel_rfl) rfl #[.slice Ao9 t361.length co9, .int .i64 t362] rfl (by (try simp only [List.map_toArray, List.map_cons, List.map_nil]); first | done | rfl | (simp only [List.length_drop, List.length_take]; rfl)) ?_; (with_reducible refine (impl_CutHaves.calls k _ _ t361 t362 t365 t366 _ ?side1 ?side2 A5.out).mono ?_); (case side1 => repeat (first | exact (Kd.R_reads' HO364.out).2.2 | (with_reducible refine Kd.C_alloc ?_ _) | (with_reducible refine Kd.C_drewN ?_ _) | (with_reducible refine Kd.C_drew ?_))); (case side2 => exact (Kd.R_reads' HO364.out).2.1); rintro e w10 ⟨v367, rfl, ho0, hb⟩; refine ⟨_, rfl, ?_⟩; have n0_ := Aside0.mk (Kd.R_below (by (with_reducible repeat (first | apply Kd.R_alloc | apply Kd.R_drewN | apply Kd.R_drew)); exact HO364.out) hb); have n1_ := Aside0.mk (Kd.S_lower (Kd.S_new' ho0 (Kd.R_lt (by (with_reducible repeat (first | apply Kd.R_alloc | apply Kd.R_drewN | apply Kd.R_drew)); exact HO364.out))) (below_size (by repeat (first | (with_reducible first | exact HB.out | apply below_alloc | apply pw_below_drewN | apply below_drew1) | exact HB.out)))); have n2_ := Aside0.mk (below_step (by repeat (first | (with_reducible first | exact HB.out | apply below_alloc | apply pw_below_drewN | apply below_drew1) | exact HB.out)) hb); clear HO364; clear HB; have HO364 := n0_; have HO368 := n1_; have HB := n2_; clear n0_ n1_ n2_; (try clear hb); (try clear hb2); (try clear hk); (try clear hi); (try clear ho0)) | ((with_reducible refine gate_callee (f := 21) rfl ?_); refine goesL_ (some 56) rfl rfl Try.func21 (by kernel_rfl) rfl #[.slice Ao9 t361.length co9, .int .i64 t362] rfl (by (try simp only [List.map_toArray, List.map_cons, List.map_nil]); first | done | rfl | (simp only [List.length_drop, List.length_take]; rfl)) ?_; (with_reducible refine (spec_CutHaves.calls k _ _ t361 t362 t369 t370 _ ?side1 ?side2 A6.out).mono ?_); (case side1 => repeat (first | exact (Kd.R_reads' HO364.out).2.2 | (with_reducible refine Kd.C_alloc ?_ _) | (with_reducible refine Kd.C_drewN ?_ _) | (with_reducible refine Kd.C_drew ?_))); (case side2 => exact (Kd.R_reads' HO364.out).2.1); rintro e w11 ⟨v371, rfl, ho0, hb⟩; refine ⟨_, rfl, ?_⟩; have n0_ := Aside0.mk (Kd.R_below (by (with_reducible repeat (first | apply Kd.R_alloc | apply Kd.R_drewN | apply Kd.R_drew)); exact HO364.out) hb); have n1_ := Aside0.mk (Kd.S_elder' (by (with_reducible repeat (first | apply Kd.S_alloc | apply Kd.S_drewN | apply Kd.S_drew)); exact HO368.out) (Kd.S_base ho0) hb); have n2_ := Aside0.mk (Kd.S_lower (Kd.S_new' (Kd.S_new' ho0 (Kd.R_lt (by (with_reducible repeat (first | apply Kd.R_alloc | apply Kd.R_drewN | apply Kd.R_drew)); exact HO364.out))) (Kd.S_lt (by (with_reducible repeat (first | apply Kd.S_alloc | apply Kd.S_drewN | apply Kd.S_drew)); exact HO368.out))) (below_size (by repeat (first | (with_reducible first | exact HB.out | apply below_alloc | apply pw_below_drewN | apply below_drew1) | exact HB.out)))); have n3_ := Aside0.mk (below_step (by repeat (first | (with_reducible first | exact HB.out | apply below_alloc | apply pw_below_drewN | apply below_drew1) | exact HB.out)) hb); clear HO364; clear HO368; clear HB; have HO364 := n0_; have HO368 := n1_; have HO372 := n2_; have HB := n3_; clear n0_ n1_ n2_ n3_; (try clear hb); (try clear hb2); (try clear hk); (try clear hi); (try clear ho0)))
    (try simp only [Act.put, List.setIfInBounds_toArray, List.set_cons_zero, List.set_cons_succ])
    go_cut [68] (fun v68 wc => ∃ (kq : Nat) (x68_6 : Bool), v68 = .bool x68_6 ∧ Aside0 (laws_FnHaves.j0 kq l1 t361 t362 t365 t366 t369 x68_6 = some r) ∧ Aside0 (kq ≤ k) ∧ Aside0 (Kd.R k56 56 wc w.heap.size (fun _ => True) (.slice Ao9 t361.length co9) t361) ∧ Aside0 (Kd.S k37 37 wc w.heap.size (fun k_ => some k_ ≠ ((.slice Ao9 t361.length co9) : Value).ownBlock ∧ some k_ ≠ (v371 : Value).ownBlock) v367 t365) ∧ Aside0 (Kd.S k37 37 wc w.heap.size (fun k_ => some k_ ≠ ((.slice Ao9 t361.length co9) : Value).ownBlock ∧ some k_ ≠ (v367 : Value).ownBlock) v371 t369) ∧ Aside0 (Below w.heap.size w wc))
    case first =>
      have H := HC7.out
      clear HC7
      by_cases c12 : (t366 != t370) = true
      · rw [if_pos c12] at H
        exact absurd H (by simp)
      · rw [if_neg c12] at H
        have c12b0 : (t366 != t370) = false := by simpa using c12
        (try (have c12b1 : decide (t366 = t370) = true := by simpa using c12))
        (try (have c12b2 : (t366 == t370) = true := by simpa using c12))
        clear c12
        (first | rw [c12b0] | (simp only [i64_w, i32_w]; rw [c12b0]) | skip)
        as_aux_lemma =>
          have H' := Aside0.mk H
          clear H
          obtain ⟨Ao13, co13, eo13⟩ := Kd.S_slice HO368.out
          subst eo13
          obtain ⟨Ao14, co14, eo14⟩ := Kd.S_slice HO372.out
          subst eo14
          go_wp2
          go_meet
          case rel => exact ⟨_, (((t365.length : Int) != (t369.length : Int))), (by first | rfl | (simp; done) | (simp [*]; done)), H', ⟨by first | omega | exact Nat.le_refl _⟩, ⟨by (with_reducible repeat (first | apply Kd.R_alloc | apply Kd.R_drewN | apply Kd.R_drew)); exact HO364.out⟩, ⟨by (with_reducible repeat (first | apply Kd.S_alloc | apply Kd.S_drewN | apply Kd.S_drew)); exact Kd.S_mono HO368.out (fun _ hk => ⟨hk.1.2, hk.2⟩)⟩, ⟨by (with_reducible repeat (first | apply Kd.S_alloc | apply Kd.S_drewN | apply Kd.S_drew)); exact Kd.S_mono HO372.out (fun _ hk => ⟨hk.1.2, hk.2⟩)⟩, ⟨by repeat (first | (with_reducible first | exact HB.out | apply below_alloc | apply pw_below_drewN | apply below_drew1) | exact HB.out)⟩⟩
    case rest =>
      clear HC7
      try clear c1
      try clear c2
      try clear p2
      try clear c3
      try clear c3b0
      try clear p6
      try clear c8
      try clear c12
      try clear c12b0
      try clear c12b1
      try clear c12b2
      obtain ⟨kq, x68_6, rfl, HA, HJ6, HO_5, HO_7, HO_9, HB⟩ := hcut
      cases kq with
      | zero => exact absurd HA.out (by simp [laws_FnHaves.j0])
      | succ kj6 =>
        have H := HA.out
        clear HA
        simp only [laws_FnHaves.j0] at H
        by_cases c15 : x68_6 = true
        · subst c15
          have H1 : (none) = some r := by rw [if_pos rfl] at H; exact H
          clear H
          have H := H1
          clear H1
          exact absurd H (by simp)
        · replace c15 := Bool.eq_false_iff.mpr c15
          subst c15
          have H1 : (laws_FnHaves.l0 kj6 l1 t361 t362 t365 t366 t369 (t365.length : Int) 0) = some r := by rw [if_neg (show ¬ (false = true) by decide)] at H; exact H
          clear H
          have H := H1
          clear H1
          have H' := Aside0.mk H
          clear H
          obtain ⟨Ao16, co16, eo16⟩ := Kd.S_slice HO_7.out
          subst eo16
          go_wp2
          go_loopg [71] kj6 (fun kq v71 w' => ∃ (x71_2 : Int), v71 = .int .i64 x71_2 ∧ Aside0 (laws_FnHaves.l0 kq l1 t361 t362 t365 t366 t369 (t365.length : Int) x71_2 = some r) ∧ Aside0 (kq ≤ kj6) ∧ Aside0 (Kd.R k56 56 w' w.heap.size (fun _ => True) (.slice Ao9 t361.length co9) t361) ∧ Aside0 (Kd.S k37 37 w' w.heap.size (fun k_ => some k_ ≠ ((.slice Ao9 t361.length co9) : Value).ownBlock ∧ some k_ ≠ (v371 : Value).ownBlock) (.slice Ao16 t365.length co16) t365) ∧ Aside0 (Kd.S k37 37 w' w.heap.size (fun k_ => some k_ ≠ ((.slice Ao9 t361.length co9) : Value).ownBlock ∧ some k_ ≠ ((.slice Ao16 t365.length co16) : Value).ownBlock) v371 t369) ∧ Aside0 (Below w.heap.size w w'))
          case atStart => exact ⟨(0), (by first | rfl | (simp; done) | (simp [*]; done)), H', ⟨Nat.le_refl _⟩, ⟨by (with_reducible repeat (first | apply Kd.R_alloc | apply Kd.R_drewN | apply Kd.R_drew)); exact HO_5.out⟩, ⟨by (with_reducible repeat (first | apply Kd.S_alloc | apply Kd.S_drewN | apply Kd.S_drew)); exact HO_7.out⟩, ⟨by (with_reducible repeat (first | apply Kd.S_alloc | apply Kd.S_drewN | apply Kd.S_drew)); exact HO_9.out⟩, ⟨by repeat (first | (with_reducible first | exact HB.out | apply below_alloc | apply pw_below_drewN | apply below_drew1) | exact HB.out)⟩⟩
          case round =>
            clear H'
            try clear c1
            try clear c2
            try clear p2
            try clear c3
            try clear c3b0
            try clear p6
            try clear c8
            try clear c12
            try clear c12b0
            try clear c12b1
            try clear c12b2
            try clear c15
            try clear p2
            try clear p6
            obtain ⟨x71_2, rfl, HA, HK2, HO_5, HO_7, HO_9, HB⟩ := hrel
            cases gk with
            | zero => exact absurd HA.out (by simp [laws_FnHaves.l0])
            | succ k2 =>
              have H := HA.out
              clear HA
              simp only [laws_FnHaves.l0] at H
              by_cases c17 : x71_2 < (t365.length : Int)
              · rw [if_pos c17] at H
                have c17b0 : decide (x71_2 < (t365.length : Int)) = true := decide_eq_true c17
                clear c17
                by_cases c18 : 0 ≤ x71_2
                · rw [if_pos c18] at H
                  have c18b0 : decide (0 ≤ x71_2) = true := decide_eq_true c18
                  clear c18
                  by_cases c19 : x71_2 < (t365.length : Int)
                  · rw [if_pos c19] at H
                    have c19b0 : decide (x71_2 < (t365.length : Int)) = true := decide_eq_true c19
                    clear c19
                    by_cases c20 : x71_2 < (t369.length : Int)
                    · rw [if_pos c20] at H
                      have c20b0 : decide (x71_2 < (t369.length : Int)) = true := decide_eq_true c20
                      clear c20
                      by_cases c21 : ((rd_T37 t365 x71_2).f0) = ((rd_T37 t369 x71_2).f0)
                      · rw [if_pos c21] at H
                        have c21b0 : (((rd_T37 t365 x71_2).f0) == ((rd_T37 t369 x71_2).f0)) = true := beq_iff_eq.mpr c21
                        have c21b1 : (((rd_T37 t365 x71_2).f0) != ((rd_T37 t369 x71_2).f0)) = false := bne_eq_false_iff_eq.mpr c21
                        clear c21
                        by_cases c22 : ((rd_T37 t365 x71_2).f1) = ((rd_T37 t369 x71_2).f1)
                        · rw [if_pos c22] at H
                          have c22b0 : (((rd_T37 t365 x71_2).f1) == ((rd_T37 t369 x71_2).f1)) = true := beq_iff_eq.mpr c22
                          have c22b1 : (((rd_T37 t365 x71_2).f1) != ((rd_T37 t369 x71_2).f1)) = false := bne_eq_false_iff_eq.mpr c22
                          clear c22
                          replace H := Option.bind_eq_some_iff.mp H
                          obtain ⟨t379, A230, H⟩ := H
                          replace H : (if t379 = true then (laws_FnHaves.l0 k2 l1 t361 t362 t365 t366 t369 (t365.length : Int) (wrap64 (x71_2 + 1))) else (none)) = some r := H
                          have A23 := Aside0.mk A230
                          clear A230
                          by_cases c24 : t379 = true
                          · subst c24
                            have H1 : (laws_FnHaves.l0 k2 l1 t361 t362 t365 t366 t369 (t365.length : Int) (wrap64 (x71_2 + 1))) = some r := by rw [if_pos rfl] at H; exact H
                            clear H
                            have H := H1
                            clear H1
                            as_aux_lemma =>
                              have H' := Aside0.mk H
                              clear H
                              try go_wp2
                              have n0_ := Aside0.mk (Kd.R_drew HO_5.out)
                              have n1_ := Aside0.mk (Kd.S_drew HO_7.out)
                              have n2_ := Aside0.mk (Kd.S_drew HO_9.out)
                              have n3_ := Aside0.mk (below_drew1 HB.out)
                              clear HO_5
                              clear HO_7
                              clear HO_9
                              clear HB
                              have HO_5 := n0_
                              have HO_7 := n1_
                              have HO_9 := n2_
                              have HB := n3_
                              clear n0_ n1_ n2_ n3_
                              have p373 : 0 ≤ (x71_2 : Int) := of_decide_eq_true (by first | (with_reducible assumption) | assumption)
                              have q373 : x71_2 < (t365.length : Int) := of_decide_eq_true (by first | (with_reducible assumption) | assumption)
                              obtain ⟨ad373, A373_2, c373_2, e373, hx373_0, hx373_1, hx373_2, hl373_2, hi373_2⟩ := at_T37 (Kd.S_reads' HO_7.out).2.2 x71_2 p373 q373
                              cases e373
                              obtain ⟨ce373, hce373, hMe373, hcc373⟩ := Kd.S_get HO_7.out z37 x71_2 p373 (by first | exact q373 | exact of_decide_eq_true (by first | (with_reducible assumption) | assumption) | (have e_ := (Kd.S_reads' HO_7.out).1; omega))
                              obtain ⟨ve373_2, rfl, ge373_2⟩ := k37_openM hMe373
                              have hv373_2 := hcc373 2 _ rfl
                              rw [add_field _ _ 2 (by omega)] at hv373_2
                              replace hv373_2 := Option.some.inj (hv373_2.symm.trans hx373_2)
                              rw [hv373_2] at ge373_2
                              have HL373_2 := Aside0.mk (show Kd.R k56 56 _ _ _ _ ((rd_T37 t365 x71_2).f2) from ge373_2)
                              clear hv373_2 ge373_2
                              clear hcc373 hce373
                              have HR373_2 := Aside0.mk hi373_2
                              have HC373_2 := Aside0.mk hl373_2
                              clear hi373_2 hl373_2
                              replace p373 := eq_true p373
                              replace q373 := eq_true q373
                              obtain ⟨Ao26, co26, eo26⟩ := Kd.S_slice HO_9.out
                              (first | subst eo26 | (injection eo26 with f1_ f2_ f3_; have f4_ := f1_.symm; have f5_ := f3_.symm; clear f1_ f2_ f3_; subst f4_; subst f5_))
                              have p374 : 0 ≤ (x71_2 : Int) := of_decide_eq_true (by first | (with_reducible assumption) | assumption)
                              have q374 : x71_2 < (t369.length : Int) := of_decide_eq_true (by first | (with_reducible assumption) | assumption)
                              obtain ⟨ad374, A374_2, c374_2, e374, hx374_0, hx374_1, hx374_2, hl374_2, hi374_2⟩ := at_T37 (Kd.S_reads' HO_9.out).2.2 x71_2 p374 q374
                              cases e374
                              obtain ⟨ce374, hce374, hMe374, hcc374⟩ := Kd.S_get HO_9.out z37 x71_2 p374 (by first | exact q374 | exact of_decide_eq_true (by first | (with_reducible assumption) | assumption) | (have e_ := (Kd.S_reads' HO_9.out).1; omega))
                              obtain ⟨ve374_2, rfl, ge374_2⟩ := k37_openM hMe374
                              have hv374_2 := hcc374 2 _ rfl
                              rw [add_field _ _ 2 (by omega)] at hv374_2
                              replace hv374_2 := Option.some.inj (hv374_2.symm.trans hx374_2)
                              rw [hv374_2] at ge374_2
                              have HL374_2 := Aside0.mk (show Kd.R k56 56 _ _ _ _ ((rd_T37 t369 x71_2).f2) from ge374_2)
                              clear hv374_2 ge374_2
                              clear hcc374 hce374
                              have HR374_2 := Aside0.mk hi374_2
                              have HC374_2 := Aside0.mk hl374_2
                              clear hi374_2 hl374_2
                              replace p374 := eq_true p374
                              replace q374 := eq_true q374
                              have p375 : 0 ≤ (x71_2 : Int) := of_decide_eq_true (by first | (with_reducible assumption) | assumption)
                              have q375 : x71_2 < (t365.length : Int) := of_decide_eq_true (by first | (with_reducible assumption) | assumption)
                              obtain ⟨ad375, A375_2, c375_2, e375, hx375_0, hx375_1, hx375_2, hl375_2, hi375_2⟩ := at_T37 (Kd.S_reads' HO_7.out).2.2 x71_2 p375 q375
                              obtain rfl : ad373 = ad375 := (by injection e375)
                              obtain ⟨ce375, hce375, hMe375, hcc375⟩ := Kd.S_get HO_7.out z37 x71_2 p375 (by first | exact q375 | exact of_decide_eq_true (by first | (with_reducible assumption) | assumption) | (have e_ := (Kd.S_reads' HO_7.out).1; omega))
                              obtain ⟨ve375_2, rfl, ge375_2⟩ := k37_openM hMe375
                              have hv375_2 := hcc375 2 _ rfl
                              rw [add_field _ _ 2 (by omega)] at hv375_2
                              replace hv375_2 := Option.some.inj (hv375_2.symm.trans hx375_2)
                              rw [hv375_2] at ge375_2
                              have HL375_2 := Aside0.mk (show Kd.R k56 56 _ _ _ _ ((rd_T37 t365 x71_2).f2) from ge375_2)
                              clear hv375_2 ge375_2
                              clear hcc375 hce375
                              have HR375_2 := Aside0.mk hi375_2
                              have HC375_2 := Aside0.mk hl375_2
                              clear hi375_2 hl375_2
                              replace p375 := eq_true p375
                              replace q375 := eq_true q375
                              have ea_ := Option.some.inj (hx373_2.symm.trans hx375_2)
                              injection ea_ with ea_ en_ ec_
                              subst ea_
                              subst ec_
                              clear en_
                              have p376 : 0 ≤ (x71_2 : Int) := of_decide_eq_true (by first | (with_reducible assumption) | assumption)
                              have q376 : x71_2 < (t369.length : Int) := of_decide_eq_true (by first | (with_reducible assumption) | assumption)
                              obtain ⟨ad376, A376_2, c376_2, e376, hx376_0, hx376_1, hx376_2, hl376_2, hi376_2⟩ := at_T37 (Kd.S_reads' HO_9.out).2.2 x71_2 p376 q376
                              obtain rfl : ad374 = ad376 := (by injection e376)
                              obtain ⟨ce376, hce376, hMe376, hcc376⟩ := Kd.S_get HO_9.out z37 x71_2 p376 (by first | exact q376 | exact of_decide_eq_true (by first | (with_reducible assumption) | assumption) | (have e_ := (Kd.S_reads' HO_9.out).1; omega))
                              obtain ⟨ve376_2, rfl, ge376_2⟩ := k37_openM hMe376
                              have hv376_2 := hcc376 2 _ rfl
                              rw [add_field _ _ 2 (by omega)] at hv376_2
                              replace hv376_2 := Option.some.inj (hv376_2.symm.trans hx376_2)
                              rw [hv376_2] at ge376_2
                              have HL376_2 := Aside0.mk (show Kd.R k56 56 _ _ _ _ ((rd_T37 t369 x71_2).f2) from ge376_2)
                              clear hv376_2 ge376_2
                              clear hcc376 hce376
                              have HR376_2 := Aside0.mk hi376_2
                              have HC376_2 := Aside0.mk hl376_2
                              clear hi376_2 hl376_2
                              replace p376 := eq_true p376
                              replace q376 := eq_true q376
                              have ea_ := Option.some.inj (hx374_2.symm.trans hx376_2)
                              injection ea_ with ea_ en_ ec_
                              subst ea_
                              subst ec_
                              clear en_
                              have p377 : 0 ≤ (x71_2 : Int) := of_decide_eq_true (by first | (with_reducible assumption) | assumption)
                              have q377 : x71_2 < (t365.length : Int) := of_decide_eq_true (by first | (with_reducible assumption) | assumption)
                              obtain ⟨ad377, A377_2, c377_2, e377, hx377_0, hx377_1, hx377_2, hl377_2, hi377_2⟩ := at_T37 (Kd.S_reads' HO_7.out).2.2 x71_2 p377 q377
                              obtain rfl : ad373 = ad377 := (by injection e377)
                              obtain ⟨ce377, hce377, hMe377, hcc377⟩ := Kd.S_get HO_7.out z37 x71_2 p377 (by first | exact q377 | exact of_decide_eq_true (by first | (with_reducible assumption) | assumption) | (have e_ := (Kd.S_reads' HO_7.out).1; omega))
                              obtain ⟨ve377_2, rfl, ge377_2⟩ := k37_openM hMe377
                              have hv377_2 := hcc377 2 _ rfl
                              rw [add_field _ _ 2 (by omega)] at hv377_2
                              replace hv377_2 := Option.some.inj (hv377_2.symm.trans hx377_2)
                              rw [hv377_2] at ge377_2
                              have HL377_2 := Aside0.mk (show Kd.R k56 56 _ _ _ _ ((rd_T37 t365 x71_2).f2) from ge377_2)
                              clear hv377_2 ge377_2
                              clear hcc377 hce377
                              have HR377_2 := Aside0.mk hi377_2
                              have HC377_2 := Aside0.mk hl377_2
                              clear hi377_2 hl377_2
                              replace p377 := eq_true p377
                              replace q377 := eq_true q377
                              have ea_ := Option.some.inj (hx373_2.symm.trans hx377_2)
                              injection ea_ with ea_ en_ ec_
                              subst ea_
                              subst ec_
                              clear en_
                              have p378 : 0 ≤ (x71_2 : Int) := of_decide_eq_true (by first | (with_reducible assumption) | assumption)
                              have q378 : x71_2 < (t369.length : Int) := of_decide_eq_true (by first | (with_reducible assumption) | assumption)
                              obtain ⟨ad378, A378_2, c378_2, e378, hx378_0, hx378_1, hx378_2, hl378_2, hi378_2⟩ := at_T37 (Kd.S_reads' HO_9.out).2.2 x71_2 p378 q378
                              obtain rfl : ad374 = ad378 := (by injection e378)
                              obtain ⟨ce378, hce378, hMe378, hcc378⟩ := Kd.S_get HO_9.out z37 x71_2 p378 (by first | exact q378 | exact of_decide_eq_true (by first | (with_reducible assumption) | assumption) | (have e_ := (Kd.S_reads' HO_9.out).1; omega))
                              obtain ⟨ve378_2, rfl, ge378_2⟩ := k37_openM hMe378
                              have hv378_2 := hcc378 2 _ rfl
                              rw [add_field _ _ 2 (by omega)] at hv378_2
                              replace hv378_2 := Option.some.inj (hv378_2.symm.trans hx378_2)
                              rw [hv378_2] at ge378_2
                              have HL378_2 := Aside0.mk (show Kd.R k56 56 _ _ _ _ ((rd_T37 t369 x71_2).f2) from ge378_2)
                              clear hv378_2 ge378_2
                              clear hcc378 hce378
                              have HR378_2 := Aside0.mk hi378_2
                              have HC378_2 := Aside0.mk hl378_2
                              clear hi378_2 hl378_2
                              replace p378 := eq_true p378
                              replace q378 := eq_true q378
                              have ea_ := Option.some.inj (hx374_2.symm.trans hx378_2)
                              injection ea_ with ea_ en_ ec_
                              subst ea_
                              subst ec_
                              clear en_
                              refine start_ (n := 38) (S := fun w' => w'.cell? (ad373.add ((x71_2).toNat * 3)) = some (.int .i64 ((rd_T37 t365 x71_2).f0)) ∧ w'.cell? ⟨(ad373.add ((x71_2).toNat * 3)).block, (ad373.add ((x71_2).toNat * 3)).off + 1, none⟩ = some (.int .i64 ((rd_T37 t365 x71_2).f1)) ∧ w'.cell? ⟨(ad373.add ((x71_2).toNat * 3)).block, (ad373.add ((x71_2).toNat * 3)).off + 2, none⟩ = some (.slice A373_2 ((rd_T37 t365 x71_2).f2).length c373_2) ∧ w'.cell? (ad374.add ((x71_2).toNat * 3)) = some (.int .i64 ((rd_T37 t369 x71_2).f0)) ∧ w'.cell? ⟨(ad374.add ((x71_2).toNat * 3)).block, (ad374.add ((x71_2).toNat * 3)).off + 1, none⟩ = some (.int .i64 ((rd_T37 t369 x71_2).f1)) ∧ w'.cell? ⟨(ad374.add ((x71_2).toNat * 3)).block, (ad374.add ((x71_2).toNat * 3)).off + 2, none⟩ = some (.slice A374_2 ((rd_T37 t369 x71_2).f2).length c374_2) ∧ w'.cell? (ad373.add ((x71_2).toNat * 3)) = some (.int .i64 ((rd_T37 t365 x71_2).f0)) ∧ w'.cell? ⟨(ad373.add ((x71_2).toNat * 3)).block, (ad373.add ((x71_2).toNat * 3)).off + 1, none⟩ = some (.int .i64 ((rd_T37 t365 x71_2).f1)) ∧ w'.cell? ⟨(ad373.add ((x71_2).toNat * 3)).block, (ad373.add ((x71_2).toNat * 3)).off + 2, none⟩ = some (.slice A373_2 ((rd_T37 t365 x71_2).f2).length c373_2) ∧ w'.cell? (ad374.add ((x71_2).toNat * 3)) = some (.int .i64 ((rd_T37 t369 x71_2).f0)) ∧ w'.cell? ⟨(ad374.add ((x71_2).toNat * 3)).block, (ad374.add ((x71_2).toNat * 3)).off + 1, none⟩ = some (.int .i64 ((rd_T37 t369 x71_2).f1)) ∧ w'.cell? ⟨(ad374.add ((x71_2).toNat * 3)).block, (ad374.add ((x71_2).toNat * 3)).off + 2, none⟩ = some (.slice A374_2 ((rd_T37 t369 x71_2).f2).length c374_2) ∧ w'.cell? (ad373.add ((x71_2).toNat * 3)) = some (.int .i64 ((rd_T37 t365 x71_2).f0)) ∧ w'.cell? ⟨(ad373.add ((x71_2).toNat * 3)).block, (ad373.add ((x71_2).toNat * 3)).off + 1, none⟩ = some (.int .i64 ((rd_T37 t365 x71_2).f1)) ∧ w'.cell? ⟨(ad373.add ((x71_2).toNat * 3)).block, (ad373.add ((x71_2).toNat * 3)).off + 2, none⟩ = some (.slice A373_2 ((rd_T37 t365 x71_2).f2).length c373_2) ∧ w'.cell? (ad374.add ((x71_2).toNat * 3)) = some (.int .i64 ((rd_T37 t369 x71_2).f0)) ∧ w'.cell? ⟨(ad374.add ((x71_2).toNat * 3)).block, (ad374.add ((x71_2).toNat * 3)).off + 1, none⟩ = some (.int .i64 ((rd_T37 t369 x71_2).f1)) ∧ w'.cell? ⟨(ad374.add ((x71_2).toNat * 3)).block, (ad374.add ((x71_2).toNat * 3)).off + 2, none⟩ = some (.slice A374_2 ((rd_T37 t369 x71_2).f2).length c374_2)) (ds := []) #[false, false, false, false, false, false, false, false, false, false, false, false, false, false, false, false, false, false, false, false, false, false, false, false, false, false, false, false, false, false, false, false, false, false, false, false, false, false] (by kernel_rfl) rfl rfl ⟨hx373_0, hx373_1, hx373_2, hx374_0, hx374_1, hx374_2, hx375_0, hx375_1, hx375_2, hx376_0, hx376_1, hx376_2, hx377_0, hx377_1, hx377_2, hx378_0, hx378_1, hx378_2⟩ (fun hHeld => ?_); refine with_tabW laws_FnHaves.tab11 laws_FnHaves.bits11 (fun HT_ HW_ => ?_)
                              generalize wr.drew = w25 at HO_5 HO_7 HO_9 HB HL373_2 HL374_2 HL375_2 HL376_2 HL377_2 HL378_2 HR373_2 HR374_2 HR375_2 HR376_2 HR377_2 HR378_2 hx373_0 hx373_1 hx373_2 hx374_0 hx374_1 hx374_2 hx375_0 hx375_1 hx375_2 hx376_0 hx376_1 hx376_2 hx377_0 hx377_1 hx377_2 hx378_0 hx378_1 hx378_2 hHeld ⊢
                              refine pure_ (i := 0) (N := some 74) (v := ?_) (a' := ?_) #[true, false, false, false, false, false, false, false, false, false, false, false, false, false, false, false, false, false, false, false, false, false, false, false, false, false, false, false, false, false, false, false, false, false, false, false, false, false] rfl rfl (any_of HT_.out (by kernel_rfl)) (fun _ _ _ h => h) (Or.inl ⟨by rfl, ?_⟩) ?_ ?_
                              rotate_left
                              · intro w'
                                go_simp
                                with_reducible rfl
                              rotate_left
                              · simp only [Act.put, List.setIfInBounds_toArray, List.set_cons_zero, List.set_cons_succ, i64_w, i32_w]
                                rfl
                              refine pure_ (i := 1) (N := some 75) (v := ?_) (a' := ?_) #[true, true, false, false, false, false, false, false, false, false, false, false, false, false, false, false, false, false, false, false, false, false, false, false, false, false, false, false, false, false, false, false, false, false, false, false, false, false] rfl rfl (any_of HT_.out (by kernel_rfl)) (fun _ _ _ h => h) (Or.inl ⟨by rfl, ?_⟩) ?_ ?_
                              rotate_left
                              · intro w'
                                go_simp
                                with_reducible rfl
                              rotate_left
                              · simp only [Act.put, List.setIfInBounds_toArray, List.set_cons_zero, List.set_cons_succ, i64_w, i32_w]
                                rfl
                              refine pure_ (i := 2) (N := some 76) (v := ?_) (a' := ?_) #[true, true, true, false, false, false, false, false, false, false, false, false, false, false, false, false, false, false, false, false, false, false, false, false, false, false, false, false, false, false, false, false, false, false, false, false, false, false] rfl rfl (any_of HT_.out (by kernel_rfl)) (fun _ _ _ h => h) (Or.inl ⟨by rfl, ?_⟩) ?_ ?_
                              rotate_left
                              · intro w'
                                go_simp
                                with_reducible rfl
                              rotate_left
                              · simp only [Act.put, List.setIfInBounds_toArray, List.set_cons_zero, List.set_cons_succ, i64_w, i32_w]
                                rfl
                              refine pure_ (i := 3) (N := some 77) (v := ?_) (a' := ?_) #[true, true, true, true, false, false, false, false, false, false, false, false, false, false, false, false, false, false, false, false, false, false, false, false, false, false, false, false, false, false, false, false, false, false, false, false, false, false] rfl rfl (any_of HT_.out (by kernel_rfl)) (fun _ _ _ h => h) (Or.inl ⟨by rfl, ?_⟩) ?_ ?_
                              rotate_left
                              · intro w'
                                go_simp
                                with_reducible rfl
                              rotate_left
                              · simp only [Act.put, List.setIfInBounds_toArray, List.set_cons_zero, List.set_cons_succ, i64_w, i32_w]
                                rfl
                              refine pure_ (i := 5) (N := some 79) (v := ?_) (a' := ?_) #[true, true, true, true, false, true, false, false, false, false, false, false, false, false, false, false, false, false, false, false, false, false, false, false, false, false, false, false, false, false, false, false, false, false, false, false, false, false] rfl rfl (any_of HT_.out (by kernel_rfl)) (fun _ _ _ h => h) (Or.inl ⟨by rfl, ?_⟩) ?_ ?_
                              rotate_left
                              · intro w'
                                go_simp
                                with_reducible rfl
                              rotate_left
                              · simp only [Act.put, List.setIfInBounds_toArray, List.set_cons_zero, List.set_cons_succ, i64_w, i32_w]
                                rfl
                              refine pure_ (i := 6) (N := some 80) (v := ?_) (a' := ?_) #[true, true, true, true, false, true, true, false, false, false, false, false, false, false, false, false, false, false, false, false, false, false, false, false, false, false, false, false, false, false, false, false, false, false, false, false, false, false] rfl rfl (any_of HT_.out (by kernel_rfl)) (fun _ _ _ h => h) (Or.inl ⟨by rfl, ?_⟩) ?_ ?_
                              rotate_left
                              · intro w'
                                go_simp
                                with_reducible rfl
                              rotate_left
                              · simp only [Act.put, List.setIfInBounds_toArray, List.set_cons_zero, List.set_cons_succ, i64_w, i32_w]
                                rfl
                              refine pure_ (i := 7) (N := some 81) (v := ?_) (a' := ?_) #[true, true, true, true, false, true, true, true, false, false, false, false, false, false, false, false, false, false, false, false, false, false, false, false, false, false, false, false, false, false, false, false, false, false, false, false, false, false] rfl rfl (any_of HT_.out (by kernel_rfl)) (fun _ _ _ h => h) (Or.inl ⟨by rfl, ?_⟩) ?_ ?_
                              rotate_left
                              · intro w'
                                go_simp
                                with_reducible rfl
                              rotate_left
                              · simp only [Act.put, List.setIfInBounds_toArray, List.set_cons_zero, List.set_cons_succ, i64_w, i32_w]
                                rfl
                              refine pure_ (i := 8) (N := some 82) (v := ?_) (a' := ?_) #[true, true, true, true, false, true, true, true, true, false, false, false, false, false, false, false, false, false, false, false, false, false, false, false, false, false, false, false, false, false, false, false, false, false, false, false, false, false] rfl rfl (any_of HT_.out (by kernel_rfl)) (fun _ _ _ h => h) (Or.inl ⟨by rfl, ?_⟩) ?_ ?_
                              rotate_left
                              · intro w'
                                go_simp
                                with_reducible rfl
                              rotate_left
                              · simp only [Act.put, List.setIfInBounds_toArray, List.set_cons_zero, List.set_cons_succ, i64_w, i32_w]
                                rfl
                              refine take_ (i := 4) (N := some 78) (v := ?_) (a' := ?_) #[true, true, true, true, true, true, true, true, true, false, false, false, false, false, false, false, false, false, false, false, false, false, false, false, false, false, false, false, false, false, false, false, false, false, false, false, false, false] rfl rfl (take_ofW HT_.out HW_.out (by kernel_rfl)) (fun _ _ _ h => h) (Or.inl ⟨by rfl, ?_⟩) hHeld ?_ ?_
                              rotate_left
                              · rintro w' ⟨s0, s1, s2, s3, s4, s5, s6, s7, s8, s9, s10, s11, s12, s13, s14, s15, s16, s17⟩
                                go_simp
                                with_reducible rfl
                              rotate_left
                              · simp only [Act.put, List.setIfInBounds_toArray, List.set_cons_zero, List.set_cons_succ, i64_w, i32_w]
                                rfl
                              refine take_ (i := 9) (N := some 83) (v := ?_) (a' := ?_) #[true, true, true, true, true, true, true, true, true, true, false, false, false, false, false, false, false, false, false, false, false, false, false, false, false, false, false, false, false, false, false, false, false, false, false, false, false, false] rfl rfl (take_ofW HT_.out HW_.out (by kernel_rfl)) (fun _ _ _ h => h) (Or.inl ⟨by rfl, ?_⟩) hHeld ?_ ?_
                              rotate_left
                              · rintro w' ⟨s0, s1, s2, s3, s4, s5, s6, s7, s8, s9, s10, s11, s12, s13, s14, s15, s16, s17⟩
                                go_simp
                                with_reducible rfl
                              rotate_left
                              · simp only [Act.put, List.setIfInBounds_toArray, List.set_cons_zero, List.set_cons_succ, i64_w, i32_w]
                                rfl
                              refine pure_ (i := 10) (N := some 84) (v := ?_) (a' := ?_) #[true, true, true, true, true, true, true, true, true, true, true, false, false, false, false, false, false, false, false, false, false, false, false, false, false, false, false, false, false, false, false, false, false, false, false, false, false, false] rfl rfl (any_of HT_.out (by kernel_rfl)) (fun _ _ _ h => h) (Or.inl ⟨by rfl, ?_⟩) ?_ ?_
                              rotate_left
                              · intro w'
                                go_simp
                                with_reducible rfl
                              rotate_left
                              · simp only [Act.put, List.setIfInBounds_toArray, List.set_cons_zero, List.set_cons_succ, i64_w, i32_w]
                                rfl
                              refine pure_ (i := 11) (N := some 85) (v := ?_) (a' := ?_) #[true, true, true, true, true, true, true, true, true, true, true, true, false, false, false, false, false, false, false, false, false, false, false, false, false, false, false, false, false, false, false, false, false, false, false, false, false, false] rfl rfl (any_of HT_.out (by kernel_rfl)) (fun _ _ _ h => h) (Or.inl ⟨by rfl, ?_⟩) ?_ ?_
                              rotate_left
                              · intro w'
                                go_simp
                                with_reducible rfl
                              rotate_left
                              · simp only [Act.put, List.setIfInBounds_toArray, List.set_cons_zero, List.set_cons_succ, i64_w, i32_w]
                                rfl
                              refine pure_ (i := 12) (N := some 86) (v := ?_) (a' := ?_) #[true, true, true, true, true, true, true, true, true, true, true, true, true, false, false, false, false, false, false, false, false, false, false, false, false, false, false, false, false, false, false, false, false, false, false, false, false, false] rfl rfl (any_of HT_.out (by kernel_rfl)) (fun _ _ _ h => h) (Or.inl ⟨by rfl, ?_⟩) ?_ ?_
                              rotate_left
                              · intro w'
                                go_simp
                                with_reducible rfl
                              rotate_left
                              · simp only [Act.put, List.setIfInBounds_toArray, List.set_cons_zero, List.set_cons_succ, i64_w, i32_w]
                                rfl
                              refine pure_ (i := 13) (N := some 87) (v := ?_) (a' := ?_) #[true, true, true, true, true, true, true, true, true, true, true, true, true, true, false, false, false, false, false, false, false, false, false, false, false, false, false, false, false, false, false, false, false, false, false, false, false, false] rfl rfl (any_of HT_.out (by kernel_rfl)) (fun _ _ _ h => h) (Or.inl ⟨by rfl, ?_⟩) ?_ ?_
                              rotate_left
                              · intro w'
                                go_simp
                                with_reducible rfl
                              rotate_left
                              · simp only [Act.put, List.setIfInBounds_toArray, List.set_cons_zero, List.set_cons_succ, i64_w, i32_w]
                                rfl
                              refine pure_ (i := 14) (N := some 88) (v := ?_) (a' := ?_) #[true, true, true, true, true, true, true, true, true, true, true, true, true, true, true, false, false, false, false, false, false, false, false, false, false, false, false, false, false, false, false, false, false, false, false, false, false, false] rfl rfl (any_of HT_.out (by kernel_rfl)) (fun _ _ _ h => h) (Or.inl ⟨by rfl, ?_⟩) ?_ ?_
                              rotate_left
                              · intro w'
                                go_simp
                                with_reducible rfl
                              rotate_left
                              · simp only [Act.put, List.setIfInBounds_toArray, List.set_cons_zero, List.set_cons_succ, i64_w, i32_w]
                                rfl
                              refine pure_ (i := 15) (N := some 89) (v := ?_) (a' := ?_) #[true, true, true, true, true, true, true, true, true, true, true, true, true, true, true, true, false, false, false, false, false, false, false, false, false, false, false, false, false, false, false, false, false, false, false, false, false, false] rfl rfl (any_of HT_.out (by kernel_rfl)) (fun _ _ _ h => h) (Or.inl ⟨by rfl, ?_⟩) ?_ ?_
                              rotate_left
                              · intro w'
                                go_simp
                                with_reducible rfl
                              rotate_left
                              · simp only [Act.put, List.setIfInBounds_toArray, List.set_cons_zero, List.set_cons_succ, i64_w, i32_w]
                                rfl
                              refine pure_ (i := 17) (N := some 91) (v := ?_) (a' := ?_) #[true, true, true, true, true, true, true, true, true, true, true, true, true, true, true, true, false, true, false, false, false, false, false, false, false, false, false, false, false, false, false, false, false, false, false, false, false, false] rfl rfl (any_of HT_.out (by kernel_rfl)) (fun _ _ _ h => h) (Or.inl ⟨by rfl, ?_⟩) ?_ ?_
                              rotate_left
                              · intro w'
                                go_simp
                                with_reducible rfl
                              rotate_left
                              · simp only [Act.put, List.setIfInBounds_toArray, List.set_cons_zero, List.set_cons_succ, i64_w, i32_w]
                                rfl
                              refine pure_ (i := 18) (N := some 92) (v := ?_) (a' := ?_) #[true, true, true, true, true, true, true, true, true, true, true, true, true, true, true, true, false, true, true, false, false, false, false, false, false, false, false, false, false, false, false, false, false, false, false, false, false, false] rfl rfl (any_of HT_.out (by kernel_rfl)) (fun _ _ _ h => h) (Or.inl ⟨by rfl, ?_⟩) ?_ ?_
                              rotate_left
                              · intro w'
                                go_simp
                                with_reducible rfl
                              rotate_left
                              · simp only [Act.put, List.setIfInBounds_toArray, List.set_cons_zero, List.set_cons_succ, i64_w, i32_w]
                                rfl
                              refine pure_ (i := 19) (N := some 93) (v := ?_) (a' := ?_) #[true, true, true, true, true, true, true, true, true, true, true, true, true, true, true, true, false, true, true, true, false, false, false, false, false, false, false, false, false, false, false, false, false, false, false, false, false, false] rfl rfl (any_of HT_.out (by kernel_rfl)) (fun _ _ _ h => h) (Or.inl ⟨by rfl, ?_⟩) ?_ ?_
                              rotate_left
                              · intro w'
                                go_simp
                                with_reducible rfl
                              rotate_left
                              · simp only [Act.put, List.setIfInBounds_toArray, List.set_cons_zero, List.set_cons_succ, i64_w, i32_w]
                                rfl
                              refine pure_ (i := 20) (N := some 94) (v := ?_) (a' := ?_) #[true, true, true, true, true, true, true, true, true, true, true, true, true, true, true, true, false, true, true, true, true, false, false, false, false, false, false, false, false, false, false, false, false, false, false, false, false, false] rfl rfl (any_of HT_.out (by kernel_rfl)) (fun _ _ _ h => h) (Or.inl ⟨by rfl, ?_⟩) ?_ ?_
                              rotate_left
                              · intro w'
                                go_simp
                                with_reducible rfl
                              rotate_left
                              · simp only [Act.put, List.setIfInBounds_toArray, List.set_cons_zero, List.set_cons_succ, i64_w, i32_w]
                                rfl
                              refine take_ (i := 16) (N := some 90) (v := ?_) (a' := ?_) #[true, true, true, true, true, true, true, true, true, true, true, true, true, true, true, true, true, true, true, true, true, false, false, false, false, false, false, false, false, false, false, false, false, false, false, false, false, false] rfl rfl (take_ofW HT_.out HW_.out (by kernel_rfl)) (fun _ _ _ h => h) (Or.inl ⟨by rfl, ?_⟩) hHeld ?_ ?_
                              rotate_left
                              · rintro w' ⟨s0, s1, s2, s3, s4, s5, s6, s7, s8, s9, s10, s11, s12, s13, s14, s15, s16, s17⟩
                                go_simp
                                with_reducible rfl
                              rotate_left
                              · simp only [Act.put, List.setIfInBounds_toArray, List.set_cons_zero, List.set_cons_succ, i64_w, i32_w]
                                rfl
                              refine take_ (i := 21) (N := some 95) (v := ?_) (a' := ?_) #[true, true, true, true, true, true, true, true, true, true, true, true, true, true, true, true, true, true, true, true, true, true, false, false, false, false, false, false, false, false, false, false, false, false, false, false, false, false] rfl rfl (take_ofW HT_.out HW_.out (by kernel_rfl)) (fun _ _ _ h => h) (Or.inl ⟨by rfl, ?_⟩) hHeld ?_ ?_
                              rotate_left
                              · rintro w' ⟨s0, s1, s2, s3, s4, s5, s6, s7, s8, s9, s10, s11, s12, s13, s14, s15, s16, s17⟩
                                go_simp
                                with_reducible rfl
                              rotate_left
                              · simp only [Act.put, List.setIfInBounds_toArray, List.set_cons_zero, List.set_cons_succ, i64_w, i32_w]
                                rfl
                              refine pure_ (i := 22) (N := some 96) (v := ?_) (a' := ?_) #[true, true, true, true, true, true, true, true, true, true, true, true, true, true, true, true, true, true, true, true, true, true, true, false, false, false, false, false, false, false, false, false, false, false, false, false, false, false] rfl rfl (any_of HT_.out (by kernel_rfl)) (fun _ _ _ h => h) (Or.inl ⟨by rfl, ?_⟩) ?_ ?_
                              rotate_left
                              · intro w'
                                go_simp
                                with_reducible rfl
                              rotate_left
                              · simp only [Act.put, List.setIfInBounds_toArray, List.set_cons_zero, List.set_cons_succ, i64_w, i32_w]
                                rfl
                              refine pure_ (i := 23) (N := some 97) (v := ?_) (a' := ?_) #[true, true, true, true, true, true, true, true, true, true, true, true, true, true, true, true, true, true, true, true, true, true, true, true, false, false, false, false, false, false, false, false, false, false, false, false, false, false] rfl rfl (any_of HT_.out (by kernel_rfl)) (fun _ _ _ h => h) (Or.inl ⟨by rfl, ?_⟩) ?_ ?_
                              rotate_left
                              · intro w'
                                go_simp
                                with_reducible rfl
                              rotate_left
                              · simp only [Act.put, List.setIfInBounds_toArray, List.set_cons_zero, List.set_cons_succ, i64_w, i32_w]
                                rfl
                              refine pure_ (i := 24) (N := some 98) (v := ?_) (a' := ?_) #[true, true, true, true, true, true, true, true, true, true, true, true, true, true, true, true, true, true, true, true, true, true, true, true, true, false, false, false, false, false, false, false, false, false, false, false, false, false] rfl rfl (any_of HT_.out (by kernel_rfl)) (fun _ _ _ h => h) (Or.inl ⟨by rfl, ?_⟩) ?_ ?_
                              rotate_left
                              · intro w'
                                go_simp
                                with_reducible rfl
                              rotate_left
                              · simp only [Act.put, List.setIfInBounds_toArray, List.set_cons_zero, List.set_cons_succ, i64_w, i32_w]
                                rfl
                              refine pure_ (i := 25) (N := some 99) (v := ?_) (a' := ?_) #[true, true, true, true, true, true, true, true, true, true, true, true, true, true, true, true, true, true, true, true, true, true, true, true, true, true, false, false, false, false, false, false, false, false, false, false, false, false] rfl rfl (any_of HT_.out (by kernel_rfl)) (fun _ _ _ h => h) (Or.inl ⟨by rfl, ?_⟩) ?_ ?_
                              rotate_left
                              · intro w'
                                go_simp
                                with_reducible rfl
                              rotate_left
                              · simp only [Act.put, List.setIfInBounds_toArray, List.set_cons_zero, List.set_cons_succ, i64_w, i32_w]
                                rfl
                              refine pure_ (i := 26) (N := some 100) (v := ?_) (a' := ?_) #[true, true, true, true, true, true, true, true, true, true, true, true, true, true, true, true, true, true, true, true, true, true, true, true, true, true, true, false, false, false, false, false, false, false, false, false, false, false] rfl rfl (any_of HT_.out (by kernel_rfl)) (fun _ _ _ h => h) (Or.inl ⟨by rfl, ?_⟩) ?_ ?_
                              rotate_left
                              · intro w'
                                go_simp
                                with_reducible rfl
                              rotate_left
                              · simp only [Act.put, List.setIfInBounds_toArray, List.set_cons_zero, List.set_cons_succ, i64_w, i32_w]
                                rfl
                              refine pure_ (i := 27) (N := some 101) (v := ?_) (a' := ?_) #[true, true, true, true, true, true, true, true, true, true, true, true, true, true, true, true, true, true, true, true, true, true, true, true, true, true, true, true, false, false, false, false, false, false, false, false, false, false] rfl rfl (any_of HT_.out (by kernel_rfl)) (fun _ _ _ h => h) (Or.inl ⟨by rfl, ?_⟩) ?_ ?_
                              rotate_left
                              · intro w'
                                go_simp
                                with_reducible rfl
                              rotate_left
                              · simp only [Act.put, List.setIfInBounds_toArray, List.set_cons_zero, List.set_cons_succ, i64_w, i32_w]
                                rfl
                              refine pure_ (i := 28) (N := some 102) (v := ?_) (a' := ?_) #[true, true, true, true, true, true, true, true, true, true, true, true, true, true, true, true, true, true, true, true, true, true, true, true, true, true, true, true, true, false, false, false, false, false, false, false, false, false] rfl rfl (any_of HT_.out (by kernel_rfl)) (fun _ _ _ h => h) (Or.inl ⟨by rfl, ?_⟩) ?_ ?_
                              rotate_left
                              · intro w'
                                go_simp
                                with_reducible rfl
                              rotate_left
                              · simp only [Act.put, List.setIfInBounds_toArray, List.set_cons_zero, List.set_cons_succ, i64_w, i32_w]
                                rfl
                              refine pure_ (i := 30) (N := some 104) (v := ?_) (a' := ?_) #[true, true, true, true, true, true, true, true, true, true, true, true, true, true, true, true, true, true, true, true, true, true, true, true, true, true, true, true, true, false, true, false, false, false, false, false, false, false] rfl rfl (any_of HT_.out (by kernel_rfl)) (fun _ _ _ h => h) (Or.inl ⟨by rfl, ?_⟩) ?_ ?_
                              rotate_left
                              · intro w'
                                go_simp
                                with_reducible rfl
                              rotate_left
                              · simp only [Act.put, List.setIfInBounds_toArray, List.set_cons_zero, List.set_cons_succ, i64_w, i32_w]
                                rfl
                              refine pure_ (i := 31) (N := some 105) (v := ?_) (a' := ?_) #[true, true, true, true, true, true, true, true, true, true, true, true, true, true, true, true, true, true, true, true, true, true, true, true, true, true, true, true, true, false, true, true, false, false, false, false, false, false] rfl rfl (any_of HT_.out (by kernel_rfl)) (fun _ _ _ h => h) (Or.inl ⟨by rfl, ?_⟩) ?_ ?_
                              rotate_left
                              · intro w'
                                go_simp
                                with_reducible rfl
                              rotate_left
                              · simp only [Act.put, List.setIfInBounds_toArray, List.set_cons_zero, List.set_cons_succ, i64_w, i32_w]
                                rfl
                              refine pure_ (i := 32) (N := some 106) (v := ?_) (a' := ?_) #[true, true, true, true, true, true, true, true, true, true, true, true, true, true, true, true, true, true, true, true, true, true, true, true, true, true, true, true, true, false, true, true, true, false, false, false, false, false] rfl rfl (any_of HT_.out (by kernel_rfl)) (fun _ _ _ h => h) (Or.inl ⟨by rfl, ?_⟩) ?_ ?_
                              rotate_left
                              · intro w'
                                go_simp
                                with_reducible rfl
                              rotate_left
                              · simp only [Act.put, List.setIfInBounds_toArray, List.set_cons_zero, List.set_cons_succ, i64_w, i32_w]
                                rfl
                              refine pure_ (i := 33) (N := some 107) (v := ?_) (a' := ?_) #[true, true, true, true, true, true, true, true, true, true, true, true, true, true, true, true, true, true, true, true, true, true, true, true, true, true, true, true, true, false, true, true, true, true, false, false, false, false] rfl rfl (any_of HT_.out (by kernel_rfl)) (fun _ _ _ h => h) (Or.inl ⟨by rfl, ?_⟩) ?_ ?_
                              rotate_left
                              · intro w'
                                go_simp
                                with_reducible rfl
                              rotate_left
                              · simp only [Act.put, List.setIfInBounds_toArray, List.set_cons_zero, List.set_cons_succ, i64_w, i32_w]
                                rfl
                              refine take_ (i := 29) (N := some 103) (v := ?_) (a' := ?_) #[true, true, true, true, true, true, true, true, true, true, true, true, true, true, true, true, true, true, true, true, true, true, true, true, true, true, true, true, true, true, true, true, true, true, false, false, false, false] rfl rfl (take_ofW HT_.out HW_.out (by kernel_rfl)) (fun _ _ _ h => h) (Or.inl ⟨by rfl, ?_⟩) hHeld ?_ ?_
                              rotate_left
                              · rintro w' ⟨s0, s1, s2, s3, s4, s5, s6, s7, s8, s9, s10, s11, s12, s13, s14, s15, s16, s17⟩
                                go_simp
                                with_reducible rfl
                              rotate_left
                              · simp only [Act.put, List.setIfInBounds_toArray, List.set_cons_zero, List.set_cons_succ, i64_w, i32_w]
                                rfl
                              refine take_ (i := 34) (N := some 108) (v := ?_) (a' := ?_) #[true, true, true, true, true, true, true, true, true, true, true, true, true, true, true, true, true, true, true, true, true, true, true, true, true, true, true, true, true, true, true, true, true, true, true, false, false, false] rfl rfl (take_ofW HT_.out HW_.out (by kernel_rfl)) (fun _ _ _ h => h) (Or.inl ⟨by rfl, ?_⟩) hHeld ?_ ?_
                              rotate_left
                              · rintro w' ⟨s0, s1, s2, s3, s4, s5, s6, s7, s8, s9, s10, s11, s12, s13, s14, s15, s16, s17⟩
                                go_simp
                                with_reducible rfl
                              rotate_left
                              · simp only [Act.put, List.setIfInBounds_toArray, List.set_cons_zero, List.set_cons_succ, i64_w, i32_w]
                                rfl
                              refine one_ (i := 35) (N := some 109) #[true, true, true, true, true, true, true, true, true, true, true, true, true, true, true, true, true, true, true, true, true, true, true, true, true, true, true, true, true, true, true, true, true, true, true, true, false, false] rfl rfl (one_of HT_.out (by kernel_rfl)) (by decide) (fun K hK => ?_)
                              refine goes_ Try.func31 (by kernel_rfl) rfl #[.slice A373_2 ((rd_T37 t365 x71_2).f2).length c373_2, .slice A374_2 ((rd_T37 t369 x71_2).f2).length c374_2] (by rfl) rfl rfl (by (try simp only [List.map_toArray, List.map_cons, List.map_nil]); first | done | rfl | (simp only [List.length_drop, List.length_take]; rfl)) ?_
                              with_reducible refine (laws_sameHaves.calls k2 _ _ ((rd_T37 t365 x71_2).f2) _ _ ((rd_T37 t369 x71_2).f2) true _ ?side1 ?side2 ?side3 ?side4 A23.out).mono ?_
                              (case side1 => repeat (first | exact (by repeat (first | (with_reducible exact HR377_2.out) | (with_reducible refine Kd.C_alloc ?_ _) | (with_reducible refine Kd.C_drewN ?_ _) | (with_reducible refine Kd.C_drew ?_) | exact HR377_2.out)) | (with_reducible refine Kd.C_alloc ?_ _) | (with_reducible refine Kd.C_drewN ?_ _) | (with_reducible refine Kd.C_drew ?_)))
                              (case side2 => exact HC377_2.out)
                              (case side3 => repeat (first | exact (by repeat (first | (with_reducible exact HR378_2.out) | (with_reducible refine Kd.C_alloc ?_ _) | (with_reducible refine Kd.C_drewN ?_ _) | (with_reducible refine Kd.C_drew ?_) | exact HR378_2.out)) | (with_reducible refine Kd.C_alloc ?_ _) | (with_reducible refine Kd.C_drewN ?_ _) | (with_reducible refine Kd.C_drew ?_)))
                              (case side4 => exact HC378_2.out)
                              rintro e w' ⟨rfl, ⟨nd, rfl⟩⟩
                              refine ⟨_, rfl, ?_⟩
                              refine hK.out _ _ ⟨hHeld.1, hHeld.2.1, hHeld.2.2.1, hHeld.2.2.2.1, hHeld.2.2.2.2.1, hHeld.2.2.2.2.2.1, hHeld.2.2.2.2.2.2.1, hHeld.2.2.2.2.2.2.2.1, hHeld.2.2.2.2.2.2.2.2.1, hHeld.2.2.2.2.2.2.2.2.2.1, hHeld.2.2.2.2.2.2.2.2.2.2.1, hHeld.2.2.2.2.2.2.2.2.2.2.2.1, hHeld.2.2.2.2.2.2.2.2.2.2.2.2.1, hHeld.2.2.2.2.2.2.2.2.2.2.2.2.2.1, hHeld.2.2.2.2.2.2.2.2.2.2.2.2.2.2.1, hHeld.2.2.2.2.2.2.2.2.2.2.2.2.2.2.2.1, hHeld.2.2.2.2.2.2.2.2.2.2.2.2.2.2.2.2.1, hHeld.2.2.2.2.2.2.2.2.2.2.2.2.2.2.2.2.2⟩ (fun hHeld => ?_)
                              clear hK K
                              refine norm_ (a' := ?_) ?_ ?_
                              rotate_left
                              · show Act.put _ (some 109) _ = _
                                simp only [Act.put, List.setIfInBounds_toArray, List.set_cons_zero, List.set_cons_succ, i64_w, i32_w]
                                rfl
                              refine pure_ (i := 36) (N := some 110) (v := ?_) (a' := ?_) #[true, true, true, true, true, true, true, true, true, true, true, true, true, true, true, true, true, true, true, true, true, true, true, true, true, true, true, true, true, true, true, true, true, true, true, true, true, false] rfl rfl (any_of HT_.out (by kernel_rfl)) (fun _ _ _ h => h) (Or.inl ⟨by rfl, ?_⟩) ?_ ?_
                              rotate_left
                              · intro w'
                                go_simp
                                with_reducible rfl
                              rotate_left
                              · simp only [Act.put, List.setIfInBounds_toArray, List.set_cons_zero, List.set_cons_succ, i64_w, i32_w]
                                rfl
                              refine pure_ (i := 37) (N := some 111) (v := ?_) (a' := ?_) #[true, true, true, true, true, true, true, true, true, true, true, true, true, true, true, true, true, true, true, true, true, true, true, true, true, true, true, true, true, true, true, true, true, true, true, true, true, true] rfl rfl (any_of HT_.out (by kernel_rfl)) (fun _ _ _ h => h) (Or.inl ⟨by rfl, ?_⟩) ?_ ?_
                              rotate_left
                              · intro w'
                                go_simp
                                with_reducible rfl
                              rotate_left
                              · simp only [Act.put, List.setIfInBounds_toArray, List.set_cons_zero, List.set_cons_succ, i64_w, i32_w]
                                rfl
                              refine done_ (done_of HT_.out (by kernel_rfl)) ?_
                              try go_wp2
                              go_roundg k2
                              case measure => have := HJ6.out; have := HK2.out; omega
                              case rel => exact ⟨(wrap64 (x71_2 + 1)), (by first | rfl | (simp; done) | (simp [*]; done)), H', ⟨by have := HJ6.out; have := HK2.out; omega⟩, ⟨by (with_reducible repeat (first | apply Kd.R_alloc | apply Kd.R_drewN | apply Kd.R_drew)); exact HO_5.out⟩, ⟨by (with_reducible repeat (first | apply Kd.S_alloc | apply Kd.S_drewN | apply Kd.S_drew)); exact HO_7.out⟩, ⟨by (with_reducible repeat (first | apply Kd.S_alloc | apply Kd.S_drewN | apply Kd.S_drew)); exact HO_9.out⟩, ⟨by repeat (first | (with_reducible first | exact HB.out | apply below_alloc | apply pw_below_drewN | apply below_drew1) | exact HB.out)⟩⟩
                          · replace c24 := Bool.eq_false_iff.mpr c24
                            subst c24
                            have H1 : (none) = some r := by rw [if_neg (show ¬ (false = true) by decide)] at H; exact H
                            clear H
                            have H := H1
                            clear H1
                            exact absurd H (by simp)
                        · rw [if_neg c22] at H
                          have c22b0 : (((rd_T37 t365 x71_2).f1) == ((rd_T37 t369 x71_2).f1)) = false := beq_eq_false_iff_ne.mpr c22
                          have c22b1 : (((rd_T37 t365 x71_2).f1) != ((rd_T37 t369 x71_2).f1)) = true := bne_iff_ne.mpr c22
                          exact absurd H (by simp)
                      · rw [if_neg c21] at H
                        have c21b0 : (((rd_T37 t365 x71_2).f0) == ((rd_T37 t369 x71_2).f0)) = false := beq_eq_false_iff_ne.mpr c21
                        have c21b1 : (((rd_T37 t365 x71_2).f0) != ((rd_T37 t369 x71_2).f0)) = true := bne_iff_ne.mpr c21
                        exact absurd H (by simp)
                    · rw [if_neg c20] at H
                      exact absurd H (by simp)
                  · rw [if_neg c19] at H
                    exact absurd H (by simp)
                · rw [if_neg c18] at H
                  exact absurd H (by simp)
              · rw [if_neg c17] at H
                have c17b0 : decide (x71_2 < (t365.length : Int)) = false := decide_eq_false c17
                clear c17
                have HC27 := Aside0.mk H
                clear H
                go_upto_if 113 with (fail)
                go_cut [] (fun wc => ∃ (kq : Nat), Aside0 (laws_FnHaves.j3 kq l1 = some r) ∧ Aside0 (kq ≤ k2) ∧ Aside0 (Below w.heap.size w wc))
                case first =>
                  have H := HC27.out
                  clear HC27
                  by_cases c28 : t366 = true
                  · subst c28
                    have H1 : (laws_FnHaves.l1 k2 l1 t361 t362 ([] : List (S56)) 1 t365 (t365.length : Int) 0) = some r := by rw [if_pos rfl] at H; exact H
                    clear H
                    have H := H1
                    clear H1
                    have H' := Aside0.mk H
                    clear H
                    go_wp2
                    go_loopg [12, 13, 116] k2 (fun kq v12 v13 v116 w' => ∃ (x12_3 : List (S56)) (x13_3 : Int) (x116_3 : Int), v13 = .int .i64 x13_3 ∧ v116 = .int .i64 x116_3 ∧ Aside0 (laws_FnHaves.l1 kq l1 t361 t362 x12_3 x13_3 t365 (t365.length : Int) x116_3 = some r) ∧ Aside0 (kq ≤ k2) ∧ Aside0 (Kd.R k56 56 w' w.heap.size (fun k_ => some k_ ≠ (v12 : Value).ownBlock) (.slice Ao9 t361.length co9) t361) ∧ Aside0 (Kd.R k56 56 w' w.heap.size (fun k_ => some k_ ≠ ((.slice Ao9 t361.length co9) : Value).ownBlock) v12 x12_3) ∧ Aside0 (Kd.S k37 37 w' w.heap.size (fun k_ => some k_ ≠ ((.slice Ao9 t361.length co9) : Value).ownBlock ∧ some k_ ≠ (v12 : Value).ownBlock) (.slice Ao16 t365.length co16) t365) ∧ Aside0 (Below w.heap.size w w'))
                    case atStart => exact ⟨(([] : List (S56))), (1), (0), (by first | rfl | (simp; done) | (simp [*]; done)), (by first | rfl | (simp; done) | (simp [*]; done)), H', ⟨Nat.le_refl _⟩, ⟨by (with_reducible repeat (first | apply Kd.R_alloc | apply Kd.R_drewN | apply Kd.R_drew)); exact Kd.R_mono HO_5.out (fun _ hk => (by simp [Value.ownBlock]))⟩, ⟨by first | exact Kd.R_nil _ _ _ _ _ | exact Kd.N_nil _ _ _ _ _ | exact Kd.V_nil _ _ _ _ _ | exact Kd.Q_nil _ _ _ _ _ | exact Kd.S_nil _ _ _ _ _⟩, ⟨by (with_reducible repeat (first | apply Kd.S_alloc | apply Kd.S_drewN | apply Kd.S_drew)); exact Kd.S_mono HO_7.out (fun _ hk => ⟨hk.1, (by simp [Value.ownBlock])⟩)⟩, ⟨by repeat (first | (with_reducible first | exact HB.out | apply below_alloc | apply pw_below_drewN | apply below_drew1) | exact HB.out)⟩⟩
                    case round =>
                      clear H'
                      try clear c1
                      try clear c2
                      try clear p2
                      try clear c3
                      try clear c3b0
                      try clear p3
                      try clear q3
                      try clear hx3
                      try clear p6
                      try clear c8
                      try clear c12
                      try clear c12b0
                      try clear c12b1
                      try clear c12b2
                      try clear c15
                      try clear c17
                      try clear c17b0
                      try clear c18
                      try clear c18b0
                      try clear c19
                      try clear c19b0
                      try clear c20
                      try clear c20b0
                      try clear c21
                      try clear c21b0
                      try clear c21b1
                      try clear c22
                      try clear c22b0
                      try clear c22b1
                      try clear c24
                      try clear c28
                      try clear hx373_0
                      try clear hx373_1
                      try clear hx373_2
                      try clear hx374_0
                      try clear hx374_1
                      try clear hx374_2
                      try clear hx375_0
                      try clear hx375_1
                      try clear hx375_2
                      try clear hx376_0
                      try clear hx376_1
                      try clear hx376_2
                      try clear hx377_0
                      try clear hx377_1
                      try clear hx377_2
                      try clear hx378_0
                      try clear hx378_1
                      try clear hx378_2
                      try clear p2
                      try clear p373
                      try clear p374
                      try clear p375
                      try clear p376
                      try clear p377
                      try clear p378
                      try clear p6
                      try clear q373
                      try clear q374
                      try clear q375
                      try clear q376
                      try clear q377
                      try clear q378
                      obtain ⟨x12_3, x13_3, x116_3, rfl, rfl, HA, HK3, HO_5, HO_12, HO_114, HB⟩ := hrel
                      cases gk with
                      | zero => exact absurd HA.out (by simp [laws_FnHaves.l1])
                      | succ k3 =>
                        have H := HA.out
                        clear HA
                        simp only [laws_FnHaves.l1] at H
                        by_cases c29 : x116_3 < (t365.length : Int)
                        · rw [if_pos c29] at H
                          have c29b0 : decide (x116_3 < (t365.length : Int)) = true := decide_eq_true c29
                          clear c29
                          (first | rw [c29b0] | (simp only [i64_w, i32_w]; rw [c29b0]) | skip)
                          by_cases c30 : 0 ≤ x116_3
                          · rw [if_pos c30] at H
                            have c30b0 : decide (0 ≤ x116_3) = true := decide_eq_true c30
                            clear c30
                            by_cases c31 : x116_3 < (t365.length : Int)
                            · rw [if_pos c31] at H
                              have c31b0 : decide (x116_3 < (t365.length : Int)) = true := decide_eq_true c31
                              clear c31
                              replace H := Option.bind_eq_some_iff.mp H
                              obtain ⟨t382, A320, H⟩ := H
                              replace H : (if t382 = true then (if ((rd_T37 t365 x116_3).f0) = x13_3 then (if (((rd_T37 t365 x116_3).f2).length : Int) > t362 then (none) else (if x12_3.length + ((rd_T37 t365 x116_3).f2).length < 8796093022208 then (laws_FnHaves.l1 k3 l1 t361 t362 (x12_3 ++ ((rd_T37 t365 x116_3).f2)) (wrap64 (((rd_T37 t365 x116_3).f1) + 1)) t365 (t365.length : Int) (wrap64 (x116_3 + 1))) else (none))) else (none)) else (none)) = some r := H
                              have A32 := Aside0.mk A320
                              clear A320
                              by_cases c33 : t382 = true
                              · subst c33
                                have H1 : (if ((rd_T37 t365 x116_3).f0) = x13_3 then (if (((rd_T37 t365 x116_3).f2).length : Int) > t362 then (none) else (if x12_3.length + ((rd_T37 t365 x116_3).f2).length < 8796093022208 then (laws_FnHaves.l1 k3 l1 t361 t362 (x12_3 ++ ((rd_T37 t365 x116_3).f2)) (wrap64 (((rd_T37 t365 x116_3).f1) + 1)) t365 (t365.length : Int) (wrap64 (x116_3 + 1))) else (none))) else (none)) = some r := by rw [if_pos rfl] at H; exact H
                                clear H
                                have H := H1
                                clear H1
                                by_cases c34 : ((rd_T37 t365 x116_3).f0) = x13_3
                                · rw [if_pos c34] at H
                                  have c34b0 : (((rd_T37 t365 x116_3).f0) == x13_3) = true := beq_iff_eq.mpr c34
                                  have c34b1 : (((rd_T37 t365 x116_3).f0) != x13_3) = false := bne_eq_false_iff_eq.mpr c34
                                  clear c34
                                  by_cases c35 : (((rd_T37 t365 x116_3).f2).length : Int) > t362
                                  · rw [if_pos c35] at H
                                    exact absurd H (by simp)
                                  · rw [if_neg c35] at H
                                    have c35b0 : decide (t362 < (((rd_T37 t365 x116_3).f2).length : Int)) = false := decide_eq_false c35
                                    clear c35
                                    by_cases c36 : x12_3.length + ((rd_T37 t365 x116_3).f2).length < 8796093022208
                                    · rw [if_pos c36] at H
                                      have LMc36 := Aside0.mk c36
                                      clear c36
                                      obtain ⟨y383, hy383⟩ : ∃ y_ : List (S56), y_ = (x12_3 ++ ((rd_T37 t365 x116_3).f2)) := ⟨_, rfl⟩
                                      replace H : (laws_FnHaves.l1 k3 l1 t361 t362 y383 (wrap64 (((rd_T37 t365 x116_3).f1) + 1)) t365 (t365.length : Int) (wrap64 (x116_3 + 1))) = some r := by first | (rw [hy383]; with_reducible exact H) | (have H2_ := (Option.bind_some _ _).symm.trans H; rw [hy383]; with_reducible exact H2_) | (have H2_ := (Option.bind_some _ _).symm.trans H; with_reducible exact H2_) | with_reducible exact H | (rw [hy383]; exact H) | exact H
                                      have Ny383 := Aside0.mk hy383
                                      clear hy383
                                      as_aux_lemma =>
                                        have H' := Aside0.mk H
                                        clear H
                                        have p380 : 0 ≤ (x116_3 : Int) := of_decide_eq_true (by first | (with_reducible assumption) | assumption)
                                        have q380 : x116_3 < (t365.length : Int) := of_decide_eq_true (by first | (with_reducible assumption) | assumption)
                                        obtain ⟨ad380, A380_2, c380_2, e380, hx380_0, hx380_1, hx380_2, hl380_2, hi380_2⟩ := at_T37 (Kd.S_reads' HO_114.out).2.2 x116_3 p380 q380
                                        cases e380
                                        obtain ⟨ce380, hce380, hMe380, hcc380⟩ := Kd.S_get HO_114.out z37 x116_3 p380 (by first | exact q380 | exact of_decide_eq_true (by first | (with_reducible assumption) | assumption) | (have e_ := (Kd.S_reads' HO_114.out).1; omega))
                                        obtain ⟨ve380_2, rfl, ge380_2⟩ := k37_openM hMe380
                                        have hv380_2 := hcc380 2 _ rfl
                                        rw [add_field _ _ 2 (by omega)] at hv380_2
                                        replace hv380_2 := Option.some.inj (hv380_2.symm.trans hx380_2)
                                        rw [hv380_2] at ge380_2
                                        have HL380_2 := Aside0.mk (show Kd.R k56 56 _ _ _ _ ((rd_T37 t365 x116_3).f2) from ge380_2)
                                        clear hv380_2 ge380_2
                                        clear hcc380 hce380
                                        have HR380_2 := Aside0.mk hi380_2
                                        have HC380_2 := Aside0.mk hl380_2
                                        clear hi380_2 hl380_2
                                        replace p380 := eq_true p380
                                        replace q380 := eq_true q380
                                        go_wp2_with (first | ((with_reducible refine gate_dst (N := 15) rfl ?_); (try (refine gate_guard (by rfl) ?_; dsimp only)); refine box_event ?hg (N := 15) ?hd (cs := #[.int .i64 0, .int .i64 0, .slice none 0 0]) (t := 37) ?hr ?_; (case hd => rfl); (case hg => rfl); (case hr => first | (go_simp; done) | (go_simp; rfl)); intro gb381 hg w37 hbox hb; have n0_ := Aside0.mk (Kd.R_below (by (with_reducible repeat (first | apply Kd.R_alloc | apply Kd.R_drewN | apply Kd.R_drew)); exact HO_5.out) hb); have n1_ := Aside0.mk (Kd.R_below (by (with_reducible repeat (first | apply Kd.R_alloc | apply Kd.R_drewN | apply Kd.R_drew)); exact HO_12.out) hb); have n2_ := Aside0.mk (Kd.S_below (Kd.S_elderB (by (with_reducible repeat (first | apply Kd.S_alloc | apply Kd.S_drewN | apply Kd.S_drew)); exact HO_114.out) gb381 (Nat.le_of_eq hg.symm)) hb); have n3_ := Aside0.mk (Kd.R_below (by (with_reducible repeat (first | apply Kd.R_alloc | apply Kd.R_drewN | apply Kd.R_drew)); exact HL380_2.out) hb); have n4_ := Aside0.mk (Kd.C_below (by repeat (first | (with_reducible exact HR380_2.out) | (with_reducible refine Kd.C_alloc ?_ _) | (with_reducible refine Kd.C_drewN ?_ _) | (with_reducible refine Kd.C_drew ?_) | exact HR380_2.out)) hb); have n5_ := Aside0.mk (below_step (by repeat (first | (with_reducible first | exact HB.out | apply below_alloc | apply pw_below_drewN | apply below_drew1) | exact HB.out)) hb); have n6_ := Aside0.mk (hbox); have n7_ := Aside0.mk ((by rw [hg]; exact (below_size (by repeat (first | (with_reducible first | exact HB.out | apply below_alloc | apply pw_below_drewN | apply below_drew1) | exact HB.out))) : w.heap.size ≤ gb381)); have n8_ := Aside0.mk ((by rw [hg]; exact (below_size (by repeat (first | (with_reducible first | exact HB.out | apply below_alloc | apply pw_below_drewN | apply below_drew1) | exact HB.out))) : w.heap.size ≤ gb381)); clear HO_5; clear HO_12; clear HO_114; clear HL380_2; clear HR380_2; clear HB; have HO_5 := n0_; have HO_12 := n1_; have HO_114 := n2_; have HL380_2 := n3_; have HR380_2 := n4_; have HB := n5_; have BK381 := n6_; have GW381 := n7_; have GE381 := n8_; clear n0_ n1_ n2_ n3_ n4_ n5_ n6_ n7_ n8_; clear hb hbox hg; have hcz38_0 : w37.cell? ⟨gb381, 0, none⟩ = some (.int .i64 0) := (blk_cell BK381.out 0).trans rfl; have hcz38_1 : w37.cell? ⟨gb381, 1, none⟩ = some (.int .i64 0) := (blk_cell BK381.out 1).trans rfl; have hcz38_2 : w37.cell? ⟨gb381, 2, none⟩ = some (.slice none 0 0) := (blk_cell BK381.out 2).trans rfl; have hfz38_0 := blk_frozen BK381.out 0; have hfz38_1 := blk_frozen BK381.out 1; have hfz38_2 := blk_frozen BK381.out 2) | ((with_reducible refine gate_callee (f := 19) rfl ?_); refine goesL_ (some 121) rfl rfl Try.func19 (by kernel_rfl) rfl #[.agg #[.int .i64 ((rd_T37 t365 x116_3).f0), .int .i64 ((rd_T37 t365 x116_3).f1), .slice A380_2 ((rd_T37 t365 x116_3).f2).length c380_2]] rfl (by (try simp only [List.map_toArray, List.map_cons, List.map_nil]); first | done | rfl | (simp only [List.length_drop, List.length_take]; rfl)) ?_; (with_reducible refine (impl_GoodSummary.calls k3 ((rd_T37 t365 x116_3).f0) ((rd_T37 t365 x116_3).f1) _ _ ((rd_T37 t365 x116_3).f2) true _ ?side1 ?side2 A32.out).mono ?_); (case side1 => repeat (first | exact ((Kd.R_reads' (by (with_reducible repeat (first | apply Kd.R_alloc | apply Kd.R_drewN | apply Kd.R_drew)); exact (Kd.R_mono (Kd.R_far (p := ⟨gb381, 2, none⟩) (Kd.R_far (p := ⟨gb381, 1, none⟩) (Kd.R_far (p := ⟨gb381, 0, none⟩) (Kd.R_types HL380_2.out BK381.out (by decide)) (fun _ hk => hk.2) (.int .i64 ((rd_T37 t365 x116_3).f0))) (fun _ hk => hk.2) (.int .i64 ((rd_T37 t365 x116_3).f1))) (fun _ hk => hk.2) (.slice A380_2 ((rd_T37 t365 x116_3).f2).length c380_2)) (fun _ h_ => h_.1)))).2.2) | (with_reducible refine Kd.C_alloc ?_ _) | (with_reducible refine Kd.C_drewN ?_ _) | (with_reducible refine Kd.C_drew ?_))); (case side2 => exact HC380_2.out); rintro e w39 ⟨rfl, hb⟩; refine ⟨_, rfl, ?_⟩; have n0_ := Aside0.mk (Kd.R_below (by (with_reducible repeat (first | apply Kd.R_alloc | apply Kd.R_drewN | apply Kd.R_drew)); exact (Kd.R_mono (Kd.R_far (p := ⟨gb381, 2, none⟩) (Kd.R_far (p := ⟨gb381, 1, none⟩) (Kd.R_far (p := ⟨gb381, 0, none⟩) (Kd.R_types HO_5.out BK381.out (by decide)) (fun _ hk => hk.2) (.int .i64 ((rd_T37 t365 x116_3).f0))) (fun _ hk => hk.2) (.int .i64 ((rd_T37 t365 x116_3).f1))) (fun _ hk => hk.2) (.slice A380_2 ((rd_T37 t365 x116_3).f2).length c380_2)) (fun _ h_ => h_.1))) hb); have n1_ := Aside0.mk (Kd.R_below (by (with_reducible repeat (first | apply Kd.R_alloc | apply Kd.R_drewN | apply Kd.R_drew)); exact (Kd.R_mono (Kd.R_far (p := ⟨gb381, 2, none⟩) (Kd.R_far (p := ⟨gb381, 1, none⟩) (Kd.R_far (p := ⟨gb381, 0, none⟩) (Kd.R_types HO_12.out BK381.out (by decide)) (fun _ hk => hk.2) (.int .i64 ((rd_T37 t365 x116_3).f0))) (fun _ hk => hk.2) (.int .i64 ((rd_T37 t365 x116_3).f1))) (fun _ hk => hk.2) (.slice A380_2 ((rd_T37 t365 x116_3).f2).length c380_2)) (fun _ h_ => h_.1))) hb); have n2_ := Aside0.mk (Kd.S_below (by (with_reducible repeat (first | apply Kd.S_alloc | apply Kd.S_drewN | apply Kd.S_drew)); exact (Kd.S_mono (Kd.S_far (p := ⟨gb381, 2, none⟩) (Kd.S_far (p := ⟨gb381, 1, none⟩) (Kd.S_far (p := ⟨gb381, 0, none⟩) (Kd.S_mono HO_114.out (fun k_ hk => (⟨hk, hk.2⟩ : _ ∧ k_ ≠ gb381))) (fun _ hk => hk.2) (.int .i64 ((rd_T37 t365 x116_3).f0))) (fun _ hk => hk.2) (.int .i64 ((rd_T37 t365 x116_3).f1))) (fun _ hk => hk.2) (.slice A380_2 ((rd_T37 t365 x116_3).f2).length c380_2)) (fun _ h_ => h_.1))) hb); have n3_ := Aside0.mk (Kd.R_below (by (with_reducible repeat (first | apply Kd.R_alloc | apply Kd.R_drewN | apply Kd.R_drew)); exact (Kd.R_mono (Kd.R_far (p := ⟨gb381, 2, none⟩) (Kd.R_far (p := ⟨gb381, 1, none⟩) (Kd.R_far (p := ⟨gb381, 0, none⟩) (Kd.R_types HL380_2.out BK381.out (by decide)) (fun _ hk => hk.2) (.int .i64 ((rd_T37 t365 x116_3).f0))) (fun _ hk => hk.2) (.int .i64 ((rd_T37 t365 x116_3).f1))) (fun _ hk => hk.2) (.slice A380_2 ((rd_T37 t365 x116_3).f2).length c380_2)) (fun _ h_ => h_.1))) hb); have n4_ := Aside0.mk (Kd.C_below ((Kd.R_reads' (by (with_reducible repeat (first | apply Kd.R_alloc | apply Kd.R_drewN | apply Kd.R_drew)); exact (Kd.R_mono (Kd.R_far (p := ⟨gb381, 2, none⟩) (Kd.R_far (p := ⟨gb381, 1, none⟩) (Kd.R_far (p := ⟨gb381, 0, none⟩) (Kd.R_types HL380_2.out BK381.out (by decide)) (fun _ hk => hk.2) (.int .i64 ((rd_T37 t365 x116_3).f0))) (fun _ hk => hk.2) (.int .i64 ((rd_T37 t365 x116_3).f1))) (fun _ hk => hk.2) (.slice A380_2 ((rd_T37 t365 x116_3).f2).length c380_2)) (fun _ h_ => h_.1)))).2.2) hb); have n5_ := Aside0.mk (blk_below (g := gb381) (o := .cells #[.int .i64 ((rd_T37 t365 x116_3).f0), .int .i64 ((rd_T37 t365 x116_3).f1), .slice A380_2 ((rd_T37 t365 x116_3).f2).length c380_2] 37 (0, 0)) (by (with_reducible repeat (first | refine blk_drewN ?_ _ | refine blk_drew ?_ | refine blk_alloc ?_ _)); refine blk_put (cs := #[.int .i64 ((rd_T37 t365 x116_3).f0), .int .i64 ((rd_T37 t365 x116_3).f1), .slice none 0 0]) ?_ 2 _ rfl; (with_reducible repeat (first | refine blk_drewN ?_ _ | refine blk_drew ?_ | refine blk_alloc ?_ _)); refine blk_put (cs := #[.int .i64 ((rd_T37 t365 x116_3).f0), .int .i64 0, .slice none 0 0]) ?_ 1 _ rfl; (with_reducible repeat (first | refine blk_drewN ?_ _ | refine blk_drew ?_ | refine blk_alloc ?_ _)); refine blk_put (cs := #[.int .i64 0, .int .i64 0, .slice none 0 0]) ?_ 0 _ rfl; (with_reducible repeat (first | refine blk_drewN ?_ _ | refine blk_drew ?_ | refine blk_alloc ?_ _)); exact BK381.out) hb); have n6_ := Aside0.mk (below_step (by repeat (first | (with_reducible first | exact HB.out | apply below_alloc | apply pw_below_drewN | apply below_drew1 | refine below_set ?_ GE381.out) | exact HB.out)) hb); clear HO_5; clear HO_12; clear HO_114; clear HL380_2; clear HR380_2; clear BK381; clear HB; have HO_5 := n0_; have HO_12 := n1_; have HO_114 := n2_; have HL380_2 := n3_; have HR380_2 := n4_; have BK381 := n5_; have HB := n6_; clear n0_ n1_ n2_ n3_ n4_ n5_ n6_; (try clear hb); (try clear hb2); (try clear hk); (try clear hi); have hcz40_0 : w39.cell? ⟨gb381, 0, none⟩ = some (.int .i64 ((rd_T37 t365 x116_3).f0)) := (blk_cell BK381.out 0).trans rfl; have hcz40_1 : w39.cell? ⟨gb381, 1, none⟩ = some (.int .i64 ((rd_T37 t365 x116_3).f1)) := (blk_cell BK381.out 1).trans rfl; have hcz40_2 : w39.cell? ⟨gb381, 2, none⟩ = some (.slice A380_2 ((rd_T37 t365 x116_3).f2).length c380_2) := (blk_cell BK381.out 2).trans rfl; have hfz40_0 := blk_frozen BK381.out 0; have hfz40_1 := blk_frozen BK381.out 1; have hfz40_2 := blk_frozen BK381.out 2) | ((with_reducible refine gate_builtin (b := .append) (xs := #[.tmp 139, .tmp 141]) rfl ?_); (try (refine gate_guard (by rfl) ?_; dsimp only)); at_builtin; refine Kd.R_append_rows k56 (w0 := w) w.heap.size rfl (.tmp 139) (.tmp 141) 25 56 (.agg #[(.int .i64 0), (.int .i64 0)]) 16 rfl Try.underlying25 info56 rfl (by decide) (by omega) u12 x12_3 ((rd_T37 t365 x116_3).f2) _ _ _ (fun k_ => some k_ ≠ (.slice Ao9 t361.length co9 : Value).ownBlock) (fun _ => False) rfl rfl ?aO ?aR (fun _ _ h => h) (fun _ h => h.elim) ?aF ?aB ?aS ?aL ?_; (case aR => repeat (first | exact (by repeat (first | (with_reducible exact HR380_2.out) | (with_reducible refine Kd.C_alloc ?_ _) | (with_reducible refine Kd.C_drewN ?_ _) | (with_reducible refine Kd.C_drew ?_) | exact HR380_2.out)) | (with_reducible refine Kd.C_alloc ?_ _) | (with_reducible refine Kd.C_drewN ?_ _) | (with_reducible refine Kd.C_drew ?_))); (case aB => exact (by repeat (first | (with_reducible first | exact HB.out | apply below_alloc | apply pw_below_drewN | apply below_drew1 | refine below_set ?_ GE381.out) | exact HB.out))); (case aF => exact (fun k_ hk => Kd.fresh' (Kd.R_lt (by (with_reducible repeat (first | apply Kd.R_alloc | apply Kd.R_drewN | apply Kd.R_drew)); exact HO_5.out)) k_ hk)); (case aO => exact (by (with_reducible repeat (first | apply Kd.R_alloc | apply Kd.R_drewN | apply Kd.R_drew)); exact HO_12.out)); (case aS => exact (below_size (by repeat (first | (with_reducible first | exact HB.out | apply below_alloc | apply pw_below_drewN | apply below_drew1 | refine below_set ?_ GE381.out) | exact HB.out)))); (case aL => have := LMc36.out; omega); intro v384 w41 ho hb hg hat; rw [← Ny383.out] at ho; have n0_ := Aside0.mk (Kd.R_after (ok := (fun _ => True)) (by (with_reducible repeat (first | apply Kd.R_alloc | apply Kd.R_drewN | apply Kd.R_drew)); exact Kd.R_mono HO_5.out (fun _ hk => ⟨trivial, hk⟩)) hg hat); have n1_ := Aside0.mk (Kd.S_after (ok := (fun k_ => some k_ ≠ (.slice Ao9 t361.length co9 : Value).ownBlock ∧ k_ ≠ gb381)) (by (with_reducible repeat (first | apply Kd.S_alloc | apply Kd.S_drewN | apply Kd.S_drew)); exact Kd.S_mono HO_114.out (fun _ hk => ⟨⟨hk.1.1, hk.2⟩, hk.1.2⟩)) hg hat); have n2_ := Aside0.mk (Kd.R_after (ok := (fun k_ => some k_ ≠ (.slice Ao9 t361.length co9 : Value).ownBlock ∧ some k_ ≠ (.slice (some ad380) t365.length co16 : Value).ownBlock)) (by (with_reducible repeat (first | apply Kd.R_alloc | apply Kd.R_drewN | apply Kd.R_drew)); exact Kd.R_mono HL380_2.out (fun _ hk => ⟨⟨hk.1.1, hk.2⟩, hk.1.2⟩)) hg hat); have n3_ := Aside0.mk (blk_grown (g := gb381) (o := .cells #[.int .i64 ((rd_T37 t365 x116_3).f0), .int .i64 ((rd_T37 t365 x116_3).f1), .slice A380_2 ((rd_T37 t365 x116_3).f2).length c380_2] 37 (0, 0)) (by (with_reducible repeat (first | refine blk_drewN ?_ _ | refine blk_drew ?_ | refine blk_alloc ?_ _)); exact BK381.out) hg (Kd.R_ne HO_12.out BK381.out (by decide))); have n4_ := Aside0.mk (hb); have n5_ := Aside0.mk (ho); clear HO_5; clear HO_114; clear HL380_2; clear BK381; clear HB; clear HO_12; have HO_5 := n0_; have HO_114 := n1_; have HL380_2 := n2_; have BK381 := n3_; have HB := n4_; have HO385 := n5_; clear n0_ n1_ n2_ n3_ n4_ n5_; clear ho hb hg hat))
                                        go_roundg k3
                                        case measure => have := HJ6.out; have := HK2.out; have := HK3.out; omega
                                        case rel => exact ⟨(y383), (wrap64 (((rd_T37 t365 x116_3).f1) + 1)), (wrap64 (x116_3 + 1)), (by first | rfl | (simp; done) | (simp [*]; done)), (by first | rfl | (simp; done) | (simp [*]; done)), H', ⟨by have := HJ6.out; have := HK2.out; have := HK3.out; omega⟩, ⟨by (with_reducible repeat (first | apply Kd.R_alloc | apply Kd.R_drewN | apply Kd.R_drew)); exact Kd.R_mono HO_5.out (fun _ hk => hk.2)⟩, ⟨by (with_reducible repeat (first | apply Kd.R_alloc | apply Kd.R_drewN | apply Kd.R_drew)); exact HO385.out⟩, ⟨by (with_reducible repeat (first | apply Kd.S_alloc | apply Kd.S_drewN | apply Kd.S_drew)); exact Kd.S_mono HO_114.out (fun _ hk => ⟨hk.1.1, hk.2⟩)⟩, ⟨by repeat (first | (with_reducible first | exact HB.out | apply below_alloc | apply pw_below_drewN | apply below_drew1 | refine below_set ?_ GE381.out) | exact HB.out)⟩⟩
                                    · rw [if_neg c36] at H
                                      exact absurd H (by simp)
                                · rw [if_neg c34] at H
                                  exact absurd H (by simp)
                              · replace c33 := Bool.eq_false_iff.mpr c33
                                subst c33
                                have H1 : (none) = some r := by rw [if_neg (show ¬ (false = true) by decide)] at H; exact H
                                clear H
                                have H := H1
                                clear H1
                                exact absurd H (by simp)
                            · rw [if_neg c31] at H
                              exact absurd H (by simp)
                          · rw [if_neg c30] at H
                            exact absurd H (by simp)
                        · rw [if_neg c29] at H
                          have c29b0 : decide (x116_3 < (t365.length : Int)) = false := decide_eq_false c29
                          clear c29
                          (first | rw [c29b0] | (simp only [i64_w, i32_w]; rw [c29b0]) | skip)
                          replace H := Option.bind_eq_some_iff.mp H
                          obtain ⟨t386, A420, H⟩ := H
                          replace H : (if t386 = true then (if x13_3 = 1001 then (laws_FnHaves.j3 k3 l1) else (none)) else (none)) = some r := H
                          have A42 := Aside0.mk A420
                          clear A420
                          by_cases c43 : t386 = true
                          · subst c43
                            have H1 : (if x13_3 = 1001 then (laws_FnHaves.j3 k3 l1) else (none)) = some r := by rw [if_pos rfl] at H; exact H
                            clear H
                            have H := H1
                            clear H1
                            by_cases c44 : x13_3 = 1001
                            · rw [if_pos c44] at H
                              have c44b0 : (x13_3 == 1001) = true := beq_iff_eq.mpr c44
                              have c44b1 : (x13_3 != 1001) = false := bne_eq_false_iff_eq.mpr c44
                              clear c44
                              as_aux_lemma =>
                                have H' := Aside0.mk H
                                clear H
                                obtain ⟨Ao45, co45, eo45⟩ := Kd.R_slice HO_12.out
                                subst eo45
                                go_wp2_with (first | ((with_reducible refine gate_callee (f := 31) rfl ?_); refine goesL_ (some 146) rfl rfl Try.func31 (by kernel_rfl) rfl #[.slice Ao45 x12_3.length co45, .slice Ao9 t361.length co9] rfl (by (try simp only [List.map_toArray, List.map_cons, List.map_nil]); first | done | rfl | (simp only [List.length_drop, List.length_take]; rfl)) ?_; (with_reducible refine (laws_sameHaves.calls k3 _ _ x12_3 _ _ t361 true _ ?side1 ?side2 ?side3 ?side4 A42.out).mono ?_); (case side1 => repeat (first | exact (Kd.R_reads' HO_12.out).2.2 | (with_reducible refine Kd.C_alloc ?_ _) | (with_reducible refine Kd.C_drewN ?_ _) | (with_reducible refine Kd.C_drew ?_))); (case side2 => exact (Kd.R_reads' HO_12.out).2.1); (case side3 => repeat (first | exact (Kd.R_reads' HO_5.out).2.2 | (with_reducible refine Kd.C_alloc ?_ _) | (with_reducible refine Kd.C_drewN ?_ _) | (with_reducible refine Kd.C_drew ?_))); (case side4 => exact (Kd.R_reads' HO_5.out).2.1); rintro e w' ⟨rfl, ⟨nd, rfl⟩⟩; refine ⟨_, rfl, ?_⟩))
                                go_meet
                                case rel => exact ⟨_, H', ⟨by have := HJ6.out; have := HK2.out; have := HK3.out; first | omega | exact Nat.le_refl _⟩, ⟨by repeat (first | (with_reducible first | exact HB.out | apply below_alloc | apply pw_below_drewN | apply below_drew1) | exact HB.out)⟩⟩
                            · rw [if_neg c44] at H
                              exact absurd H (by simp)
                          · replace c43 := Bool.eq_false_iff.mpr c43
                            subst c43
                            have H1 : (none) = some r := by rw [if_neg (show ¬ (false = true) by decide)] at H; exact H
                            clear H
                            have H := H1
                            clear H1
                            exact absurd H (by simp)
                  · replace c28 := Bool.eq_false_iff.mpr c28
                    subst c28
                    have H1 : (laws_FnHaves.j3 k2 l1) = some r := by rw [if_neg (show ¬ (false = true) by decide)] at H; exact H
                    clear H
                    have H := H1
                    clear H1
                    as_aux_lemma =>
                      have H' := Aside0.mk H
                      clear H
                      go_wp2
                      go_meet
                      case rel => exact ⟨_, H', ⟨by have := HJ6.out; have := HK2.out; first | omega | exact Nat.le_refl _⟩, ⟨by repeat (first | (with_reducible first | exact HB.out | apply below_alloc | apply pw_below_drewN | apply below_drew1) | exact HB.out)⟩⟩
                case rest =>
                  clear HC27
                  try clear c1
                  try clear c2
                  try clear p2
                  try clear c3
                  try clear c3b0
                  try clear p3
                  try clear q3
                  try clear hx3
                  try clear c4
                  try clear p6
                  try clear c8
                  try clear c12
                  try clear c12b0
                  try clear c12b1
                  try clear c12b2
                  try clear c15
                  try clear c17
                  try clear c17b0
                  try clear c18
                  try clear c18b0
                  try clear c19
                  try clear c19b0
                  try clear c20
                  try clear c20b0
                  try clear c21
                  try clear c21b0
                  try clear c21b1
                  try clear c22
                  try clear c22b0
                  try clear c22b1
                  try clear c24
                  try clear c28
                  try clear c29
                  try clear c29b0
                  try clear c30
                  try clear c30b0
                  try clear c31
                  try clear c31b0
                  try clear c33
                  try clear c34
                  try clear c34b0
                  try clear c34b1
                  try clear c35
                  try clear c35b0
                  try clear c36
                  try clear c37
                  try clear p37
                  try clear q37
                  try clear hx37
                  try clear c38
                  try clear p38
                  try clear q38
                  try clear hx38
                  try clear c43
                  try clear c44
                  try clear c44b0
                  try clear c44b1
                  try clear hcz38_0
                  try clear hcz38_1
                  try clear hcz38_2
                  try clear hcz40_0
                  try clear hcz40_1
                  try clear hcz40_2
                  try clear hfz38_0
                  try clear hfz38_1
                  try clear hfz38_2
                  try clear hfz40_0
                  try clear hfz40_1
                  try clear hfz40_2
                  try clear hx373_0
                  try clear hx373_1
                  try clear hx373_2
                  try clear hx374_0
                  try clear hx374_1
                  try clear hx374_2
                  try clear hx375_0
                  try clear hx375_1
                  try clear hx375_2
                  try clear hx376_0
                  try clear hx376_1
                  try clear hx376_2
                  try clear hx377_0
                  try clear hx377_1
                  try clear hx377_2
                  try clear hx378_0
                  try clear hx378_1
                  try clear hx378_2
                  try clear hx380_0
                  try clear hx380_1
                  try clear hx380_2
                  try clear p2
                  try clear p3
                  try clear p373
                  try clear p374
                  try clear p375
                  try clear p376
                  try clear p377
                  try clear p378
                  try clear p380
                  try clear p6
                  try clear q3
                  try clear q373
                  try clear q374
                  try clear q375
                  try clear q376
                  try clear q377
                  try clear q378
                  try clear q380
                  obtain ⟨kq, HA, HJ26, HB⟩ := hcut
                  cases kq with
                  | zero => exact absurd HA.out (by simp [laws_FnHaves.j3])
                  | succ kj26 =>
                    have H := HA.out
                    clear HA
                    simp only [laws_FnHaves.j3] at H
                    replace H := Option.bind_eq_some_iff.mp H
                    obtain ⟨⟨t387, t388⟩, A460, H⟩ := H
                    replace H : ((impl_MergeHaves.f kj26 t387 t388).bind fun bt393 => ((spec_MergeHaves.f kj26 t387 t388).bind fun bt397 => (if (bt393.2 != bt397.2) = true then (none) else ((laws_sameHaves.f kj26 bt393.1 bt397.1).bind fun t401 => (if t401 = true then ((impl_GoodHaves.f kj26 t387).bind fun t402 => ((spec_GoodHaves.f kj26 t387).bind fun t403 => (laws_FnHaves.j4 kj26 l1 t387 t388 bt393.1 bt393.2 (t402 != t403)))) else (none)))))) = some r := H
                    have A46 := Aside0.mk A460
                    clear A460
                    replace H := Option.bind_eq_some_iff.mp H
                    obtain ⟨⟨t393, t394⟩, A470, H⟩ := H
                    replace H : ((spec_MergeHaves.f kj26 t387 t388).bind fun bt397 => (if (t394 != bt397.2) = true then (none) else ((laws_sameHaves.f kj26 t393 bt397.1).bind fun t401 => (if t401 = true then ((impl_GoodHaves.f kj26 t387).bind fun t402 => ((spec_GoodHaves.f kj26 t387).bind fun t403 => (laws_FnHaves.j4 kj26 l1 t387 t388 t393 t394 (t402 != t403)))) else (none))))) = some r := H
                    have A47 := Aside0.mk A470
                    clear A470
                    replace H := Option.bind_eq_some_iff.mp H
                    obtain ⟨⟨t397, t398⟩, A480, H⟩ := H
                    replace H : (if (t394 != t398) = true then (none) else ((laws_sameHaves.f kj26 t393 t397).bind fun t401 => (if t401 = true then ((impl_GoodHaves.f kj26 t387).bind fun t402 => ((spec_GoodHaves.f kj26 t387).bind fun t403 => (laws_FnHaves.j4 kj26 l1 t387 t388 t393 t394 (t402 != t403)))) else (none)))) = some r := H
                    have A48 := Aside0.mk A480
                    clear A480
                    have HC49 := Aside0.mk H
                    clear H
                    go_upto_region 30 with (first | ((with_reducible refine gate_callee (f := 32) rfl ?_); refine goesL_ (some 154) rfl rfl Try.func32 (by kernel_rfl) rfl #[.slice A1 l1.length c1] rfl (by (try simp only [List.map_toArray, List.map_cons, List.map_nil]); first | done | rfl | (simp only [List.length_drop, List.length_take]; rfl)) ?_; (with_reducible refine (spec_DrawMergeHaves.calls kj26 _ _ l1 t387 t388 _ ?side1 ?side2 A46.out).mono ?_); (case side1 => repeat (first | exact (Kd.C_below HR1.out HB.out) | (with_reducible refine Kd.C_alloc ?_ _) | (with_reducible refine Kd.C_drewN ?_ _) | (with_reducible refine Kd.C_drew ?_))); (case side2 => exact HC1.out); rintro e w50 ⟨v389, v391, rfl, ho0, ho1, hb⟩; refine ⟨_, rfl, ?_⟩; have n0_ := Aside0.mk (Kd.R_lower ho0 (below_size (by repeat (first | (with_reducible first | exact HB.out | apply below_alloc | apply pw_below_drewN | apply below_drew1) | exact HB.out)))); have n1_ := Aside0.mk (Kd.R_lower ho1 (below_size (by repeat (first | (with_reducible first | exact HB.out | apply below_alloc | apply pw_below_drewN | apply below_drew1) | exact HB.out)))); have n2_ := Aside0.mk (below_step (by repeat (first | (with_reducible first | exact HB.out | apply below_alloc | apply pw_below_drewN | apply below_drew1) | exact HB.out)) hb); clear HB; have HO390 := n0_; have HO392 := n1_; have HB := n2_; clear n0_ n1_ n2_; (try clear hb); (try clear hb2); (try clear hk); (try clear hi); (try clear ho0); (try clear ho1); obtain ⟨Ao51, co51, eo51⟩ := Kd.R_slice HO390.out; subst eo51; obtain ⟨Ao52, co52, eo52⟩ := Kd.R_slice HO392.out; subst eo52) | ((with_reducible refine gate_callee (f := 28) rfl ?_); refine goesL_ (some 160) rfl rfl Try.func28 (by kernel_rfl) rfl #[.slice Ao51 t387.length co51, .slice Ao52 t388.length co52] rfl (by (try simp only [List.map_toArray, List.map_cons, List.map_nil]); first | done | rfl | (simp only [List.length_drop, List.length_take]; rfl)) ?_; (with_reducible refine (impl_MergeHaves.calls kj26 _ _ t387 _ _ t388 t393 t394 _ ?side1 ?side2 ?side3 ?side4 A47.out).mono ?_); (case side1 => repeat (first | exact (Kd.R_reads' HO390.out).2.2 | (with_reducible refine Kd.C_alloc ?_ _) | (with_reducible refine Kd.C_drewN ?_ _) | (with_reducible refine Kd.C_drew ?_))); (case side2 => exact (Kd.R_reads' HO390.out).2.1); (case side3 => repeat (first | exact (Kd.R_reads' HO392.out).2.2 | (with_reducible refine Kd.C_alloc ?_ _) | (with_reducible refine Kd.C_drewN ?_ _) | (with_reducible refine Kd.C_drew ?_))); (case side4 => exact (Kd.R_reads' HO392.out).2.1); rintro e w53 ⟨v395, rfl, ho0, hb⟩; refine ⟨_, rfl, ?_⟩; have n0_ := Aside0.mk (Kd.R_elder' (by (with_reducible repeat (first | apply Kd.R_alloc | apply Kd.R_drewN | apply Kd.R_drew)); exact HO390.out) (Kd.R_base ho0) hb); have n1_ := Aside0.mk (Kd.R_elder' (by (with_reducible repeat (first | apply Kd.R_alloc | apply Kd.R_drewN | apply Kd.R_drew)); exact HO392.out) (Kd.R_base ho0) hb); have n2_ := Aside0.mk (Kd.R_lower (Kd.R_new' (Kd.R_new' ho0 (Kd.R_lt (by (with_reducible repeat (first | apply Kd.R_alloc | apply Kd.R_drewN | apply Kd.R_drew)); exact HO390.out))) (Kd.R_lt (by (with_reducible repeat (first | apply Kd.R_alloc | apply Kd.R_drewN | apply Kd.R_drew)); exact HO392.out))) (below_size (by repeat (first | (with_reducible first | exact HB.out | apply below_alloc | apply pw_below_drewN | apply below_drew1) | exact HB.out)))); have n3_ := Aside0.mk (below_step (by repeat (first | (with_reducible first | exact HB.out | apply below_alloc | apply pw_below_drewN | apply below_drew1) | exact HB.out)) hb); clear HO390; clear HO392; clear HB; have HO390 := n0_; have HO392 := n1_; have HO396 := n2_; have HB := n3_; clear n0_ n1_ n2_ n3_; (try clear hb); (try clear hb2); (try clear hk); (try clear hi); (try clear ho0)) | ((with_reducible refine gate_callee (f := 27) rfl ?_); refine goesL_ (some 166) rfl rfl Try.func27 (by kernel_rfl) rfl #[.slice Ao51 t387.length co51, .slice Ao52 t388.length co52] rfl (by (try simp only [List.map_toArray, List.map_cons, List.map_nil]); first | done | rfl | (simp only [List.length_drop, List.length_take]; rfl)) ?_; (with_reducible refine (spec_MergeHaves.calls kj26 _ _ t387 _ _ t388 t397 t398 _ ?side1 ?side2 ?side3 ?side4 A48.out).mono ?_); (case side1 => repeat (first | exact (Kd.R_reads' HO390.out).2.2 | (with_reducible refine Kd.C_alloc ?_ _) | (with_reducible refine Kd.C_drewN ?_ _) | (with_reducible refine Kd.C_drew ?_))); (case side2 => exact (Kd.R_reads' HO390.out).2.1); (case side3 => repeat (first | exact (Kd.R_reads' HO392.out).2.2 | (with_reducible refine Kd.C_alloc ?_ _) | (with_reducible refine Kd.C_drewN ?_ _) | (with_reducible refine Kd.C_drew ?_))); (case side4 => exact (Kd.R_reads' HO392.out).2.1); rintro e w54 ⟨v399, rfl, ho0, hb⟩; refine ⟨_, rfl, ?_⟩; have n0_ := Aside0.mk (Kd.R_elder' (by (with_reducible repeat (first | apply Kd.R_alloc | apply Kd.R_drewN | apply Kd.R_drew)); exact HO390.out) (Kd.R_base ho0) hb); have n1_ := Aside0.mk (Kd.R_elder' (by (with_reducible repeat (first | apply Kd.R_alloc | apply Kd.R_drewN | apply Kd.R_drew)); exact HO392.out) (Kd.R_base ho0) hb); have n2_ := Aside0.mk (Kd.R_elder' (by (with_reducible repeat (first | apply Kd.R_alloc | apply Kd.R_drewN | apply Kd.R_drew)); exact HO396.out) (Kd.R_base ho0) hb); have n3_ := Aside0.mk (Kd.R_lower (Kd.R_new' (Kd.R_new' (Kd.R_new' ho0 (Kd.R_lt (by (with_reducible repeat (first | apply Kd.R_alloc | apply Kd.R_drewN | apply Kd.R_drew)); exact HO390.out))) (Kd.R_lt (by (with_reducible repeat (first | apply Kd.R_alloc | apply Kd.R_drewN | apply Kd.R_drew)); exact HO392.out))) (Kd.R_lt (by (with_reducible repeat (first | apply Kd.R_alloc | apply Kd.R_drewN | apply Kd.R_drew)); exact HO396.out))) (below_size (by repeat (first | (with_reducible first | exact HB.out | apply below_alloc | apply pw_below_drewN | apply below_drew1) | exact HB.out)))); have n4_ := Aside0.mk (below_step (by repeat (first | (with_reducible first | exact HB.out | apply below_alloc | apply pw_below_drewN | apply below_drew1) | exact HB.out)) hb); clear HO390; clear HO392; clear HO396; clear HB; have HO390 := n0_; have HO392 := n1_; have HO396 := n2_; have HO400 := n3_; have HB := n4_; clear n0_ n1_ n2_ n3_ n4_; (try clear hb); (try clear hb2); (try clear hk); (try clear hi); (try clear ho0)))
                    (try simp only [Act.put, List.setIfInBounds_toArray, List.set_cons_zero, List.set_cons_succ])
                    go_cut [184] (fun v184 wc => ∃ (kq : Nat) (x184_48 : Bool), v184 = .bool x184_48 ∧ Aside0 (laws_FnHaves.j4 kq l1 t387 t388 t393 t394 x184_48 = some r) ∧ Aside0 (kq ≤ kj26) ∧ Aside0 (Kd.R k56 56 wc w.heap.size (fun k_ => some k_ ≠ ((.slice Ao52 t388.length co52) : Value).ownBlock ∧ some k_ ≠ (v395 : Value).ownBlock) (.slice Ao51 t387.length co51) t387) ∧ Aside0 (Kd.R k56 56 wc w.heap.size (fun k_ => some k_ ≠ ((.slice Ao51 t387.length co51) : Value).ownBlock ∧ some k_ ≠ (v395 : Value).ownBlock) (.slice Ao52 t388.length co52) t388) ∧ Aside0 (Kd.R k56 56 wc w.heap.size (fun k_ => some k_ ≠ ((.slice Ao51 t387.length co51) : Value).ownBlock ∧ some k_ ≠ ((.slice Ao52 t388.length co52) : Value).ownBlock) v395 t393) ∧ Aside0 (Below w.heap.size w wc))
                    case first =>
                      have H := HC49.out
                      clear HC49
                      by_cases c55 : (t394 != t398) = true
                      · rw [if_pos c55] at H
                        exact absurd H (by simp)
                      · rw [if_neg c55] at H
                        have c55b0 : (t394 != t398) = false := by simpa using c55
                        (try (have c55b1 : decide (t394 = t398) = true := by simpa using c55))
                        (try (have c55b2 : (t394 == t398) = true := by simpa using c55))
                        clear c55
                        (first | rw [c55b0] | (simp only [i64_w, i32_w]; rw [c55b0]) | skip)
                        replace H := Option.bind_eq_some_iff.mp H
                        obtain ⟨t401, A560, H⟩ := H
                        replace H : (if t401 = true then ((impl_GoodHaves.f kj26 t387).bind fun t402 => ((spec_GoodHaves.f kj26 t387).bind fun t403 => (laws_FnHaves.j4 kj26 l1 t387 t388 t393 t394 (t402 != t403)))) else (none)) = some r := H
                        have A56 := Aside0.mk A560
                        clear A560
                        by_cases c57 : t401 = true
                        · subst c57
                          have H1 : ((impl_GoodHaves.f kj26 t387).bind fun t402 => ((spec_GoodHaves.f kj26 t387).bind fun t403 => (laws_FnHaves.j4 kj26 l1 t387 t388 t393 t394 (t402 != t403)))) = some r := by rw [if_pos rfl] at H; exact H
                          clear H
                          have H := H1
                          clear H1
                          replace H := Option.bind_eq_some_iff.mp H
                          obtain ⟨t402, A580, H⟩ := H
                          replace H : ((spec_GoodHaves.f kj26 t387).bind fun t403 => (laws_FnHaves.j4 kj26 l1 t387 t388 t393 t394 (t402 != t403))) = some r := H
                          have A58 := Aside0.mk A580
                          clear A580
                          replace H := Option.bind_eq_some_iff.mp H
                          obtain ⟨t403, A590, H⟩ := H
                          replace H : (laws_FnHaves.j4 kj26 l1 t387 t388 t393 t394 (t402 != t403)) = some r := H
                          have A59 := Aside0.mk A590
                          clear A590
                          as_aux_lemma =>
                            have H' := Aside0.mk H
                            clear H
                            obtain ⟨Ao60, co60, eo60⟩ := Kd.R_slice HO396.out
                            subst eo60
                            obtain ⟨Ao61, co61, eo61⟩ := Kd.R_slice HO400.out
                            subst eo61
                            go_wp2_with (first | (go_at_call 31; (with_reducible refine (laws_sameHaves.calls kj26 _ _ t393 _ _ t397 true _ ?side1 ?side2 ?side3 ?side4 A56.out).mono ?_); (case side1 => repeat (first | exact (Kd.R_reads' HO396.out).2.2 | (with_reducible refine Kd.C_alloc ?_ _) | (with_reducible refine Kd.C_drewN ?_ _) | (with_reducible refine Kd.C_drew ?_))); (case side2 => exact (Kd.R_reads' HO396.out).2.1); (case side3 => repeat (first | exact (Kd.R_reads' HO400.out).2.2 | (with_reducible refine Kd.C_alloc ?_ _) | (with_reducible refine Kd.C_drewN ?_ _) | (with_reducible refine Kd.C_drew ?_))); (case side4 => exact (Kd.R_reads' HO400.out).2.1); rintro e w' ⟨rfl, ⟨nd, rfl⟩⟩) | (go_at_call 12; (with_reducible refine (impl_GoodHaves.calls kj26 _ _ t387 t402 _ ?side1 ?side2 A58.out).mono ?_); (case side1 => repeat (first | exact (Kd.R_reads' HO390.out).2.2 | (with_reducible refine Kd.C_alloc ?_ _) | (with_reducible refine Kd.C_drewN ?_ _) | (with_reducible refine Kd.C_drew ?_))); (case side2 => exact (Kd.R_reads' HO390.out).2.1); rintro e w62 ⟨rfl, hb⟩; have n0_ := Aside0.mk (Kd.R_below (by (with_reducible repeat (first | apply Kd.R_alloc | apply Kd.R_drewN | apply Kd.R_drew)); exact HO390.out) hb); have n1_ := Aside0.mk (Kd.R_below (by (with_reducible repeat (first | apply Kd.R_alloc | apply Kd.R_drewN | apply Kd.R_drew)); exact HO392.out) hb); have n2_ := Aside0.mk (Kd.R_below (by (with_reducible repeat (first | apply Kd.R_alloc | apply Kd.R_drewN | apply Kd.R_drew)); exact HO396.out) hb); have n3_ := Aside0.mk (Kd.R_below (by (with_reducible repeat (first | apply Kd.R_alloc | apply Kd.R_drewN | apply Kd.R_drew)); exact HO400.out) hb); have n4_ := Aside0.mk (below_step (by repeat (first | (with_reducible first | exact HB.out | apply below_alloc | apply pw_below_drewN | apply below_drew1) | exact HB.out)) hb); clear HO390; clear HO392; clear HO396; clear HO400; clear HB; have HO390 := n0_; have HO392 := n1_; have HO396 := n2_; have HO400 := n3_; have HB := n4_; clear n0_ n1_ n2_ n3_ n4_; (try clear hb); (try clear hb2); (try clear hk); (try clear hi)) | (go_at_call 10; (with_reducible refine (spec_GoodHaves.calls kj26 _ _ t387 t403 _ ?side1 ?side2 A59.out).mono ?_); (case side1 => repeat (first | exact (Kd.R_reads' HO390.out).2.2 | (with_reducible refine Kd.C_alloc ?_ _) | (with_reducible refine Kd.C_drewN ?_ _) | (with_reducible refine Kd.C_drew ?_))); (case side2 => exact (Kd.R_reads' HO390.out).2.1); rintro e w63 ⟨rfl, hb⟩; have n0_ := Aside0.mk (Kd.R_below (by (with_reducible repeat (first | apply Kd.R_alloc | apply Kd.R_drewN | apply Kd.R_drew)); exact HO390.out) hb); have n1_ := Aside0.mk (Kd.R_below (by (with_reducible repeat (first | apply Kd.R_alloc | apply Kd.R_drewN | apply Kd.R_drew)); exact HO392.out) hb); have n2_ := Aside0.mk (Kd.R_below (by (with_reducible repeat (first | apply Kd.R_alloc | apply Kd.R_drewN | apply Kd.R_drew)); exact HO396.out) hb); have n3_ := Aside0.mk (Kd.R_below (by (with_reducible repeat (first | apply Kd.R_alloc | apply Kd.R_drewN | apply Kd.R_drew)); exact HO400.out) hb); have n4_ := Aside0.mk (below_step (by repeat (first | (with_reducible first | exact HB.out | apply below_alloc | apply pw_below_drewN | apply below_drew1) | exact HB.out)) hb); clear HO390; clear HO392; clear HO396; clear HO400; clear HB; have HO390 := n0_; have HO392 := n1_; have HO396 := n2_; have HO400 := n3_; have HB := n4_; clear n0_ n1_ n2_ n3_ n4_; (try clear hb); (try clear hb2); (try clear hk); (try clear hi)))
                            go_meet
                            case rel => exact ⟨_, ((t402 != t403)), (by first | rfl | (simp; done) | (simp [*]; done)), H', ⟨by have := HJ6.out; have := HK2.out; have := HJ26.out; first | omega | exact Nat.le_refl _⟩, ⟨by (with_reducible repeat (first | apply Kd.R_alloc | apply Kd.R_drewN | apply Kd.R_drew)); exact Kd.R_mono HO390.out (fun _ hk => ⟨hk.1.1, hk.1.2⟩)⟩, ⟨by (with_reducible repeat (first | apply Kd.R_alloc | apply Kd.R_drewN | apply Kd.R_drew)); exact Kd.R_mono HO392.out (fun _ hk => ⟨hk.1.1, hk.1.2⟩)⟩, ⟨by (with_reducible repeat (first | apply Kd.R_alloc | apply Kd.R_drewN | apply Kd.R_drew)); exact Kd.R_mono HO396.out (fun _ hk => ⟨hk.1.1.2, hk.1.2⟩)⟩, ⟨by repeat (first | (with_reducible first | exact HB.out | apply below_alloc | apply pw_below_drewN | apply below_drew1) | exact HB.out)⟩⟩
                        · replace c57 := Bool.eq_false_iff.mpr c57
                          subst c57
                          have H1 : (none) = some r := by rw [if_neg (show ¬ (false = true) by decide)] at H; exact H
                          clear H
                          have H := H1
                          clear H1
                          exact absurd H (by simp)
                    case rest =>
                      clear HC49
                      try clear c1
                      try clear c2
                      try clear p2
                      try clear c3
                      try clear c3b0
                      try clear p3
                      try clear q3
                      try clear hx3
                      try clear c4
                      try clear c5
                      try clear p6
                      try clear c8
                      try clear c12
                      try clear c12b0
                      try clear c12b1
                      try clear c12b2
                      try clear c15
                      try clear c17
                      try clear c17b0
                      try clear c18
                      try clear c18b0
                      try clear c19
                      try clear c19b0
                      try clear c20
                      try clear c20b0
                      try clear c21
                      try clear c21b0
                      try clear c21b1
                      try clear c22
                      try clear c22b0
                      try clear c22b1
                      try clear c24
                      try clear c27
                      try clear c28
                      try clear c29
                      try clear c29b0
                      try clear c30
                      try clear c30b0
                      try clear c31
                      try clear c31b0
                      try clear c32
                      try clear c33
                      try clear c34
                      try clear c34b0
                      try clear c34b1
                      try clear c35
                      try clear c35b0
                      try clear c36
                      try clear c37
                      try clear p37
                      try clear q37
                      try clear hx37
                      try clear c38
                      try clear p38
                      try clear q38
                      try clear hx38
                      try clear c43
                      try clear c44
                      try clear c44b0
                      try clear c44b1
                      try clear c55
                      try clear c55b0
                      try clear c55b1
                      try clear c55b2
                      try clear c57
                      try clear hcz38_0
                      try clear hcz38_1
                      try clear hcz38_2
                      try clear hcz40_0
                      try clear hcz40_1
                      try clear hcz40_2
                      try clear hfz38_0
                      try clear hfz38_1
                      try clear hfz38_2
                      try clear hfz40_0
                      try clear hfz40_1
                      try clear hfz40_2
                      try clear hx373_0
                      try clear hx373_1
                      try clear hx373_2
                      try clear hx374_0
                      try clear hx374_1
                      try clear hx374_2
                      try clear hx375_0
                      try clear hx375_1
                      try clear hx375_2
                      try clear hx376_0
                      try clear hx376_1
                      try clear hx376_2
                      try clear hx377_0
                      try clear hx377_1
                      try clear hx377_2
                      try clear hx378_0
                      try clear hx378_1
                      try clear hx378_2
                      try clear hx380_0
                      try clear hx380_1
                      try clear hx380_2
                      try clear p2
                      try clear p3
                      try clear p37
                      try clear p373
                      try clear p374
                      try clear p375
                      try clear p376
                      try clear p377
                      try clear p378
                      try clear p38
                      try clear p380
                      try clear p6
                      try clear q3
                      try clear q37
                      try clear q373
                      try clear q374
                      try clear q375
                      try clear q376
                      try clear q377
                      try clear q378
                      try clear q38
                      try clear q380
                      obtain ⟨kq, x184_48, rfl, HA, HJ48, HO_16, HO_17, HO_18, HB⟩ := hcut
                      cases kq with
                      | zero => exact absurd HA.out (by simp [laws_FnHaves.j4])
                      | succ kj48 =>
                        have H := HA.out
                        clear HA
                        simp only [laws_FnHaves.j4] at H
                        by_cases c64 : x184_48 = true
                        · subst c64
                          have H1 : (none) = some r := by rw [if_pos rfl] at H; exact H
                          clear H
                          have H := H1
                          clear H1
                          exact absurd H (by simp)
                        · replace c64 := Bool.eq_false_iff.mpr c64
                          subst c64
                          have H1 : (if t394 = true then ((impl_MergeHaves.f kj48 t388 t387).bind fun bt404 => (if bt404.2 = true then ((laws_sameHaves.f kj48 bt404.1 t393).bind fun t408 => (laws_FnHaves.j5 kj48 l1 t387 t388 t393 (!t408))) else (none))) else ((spec_DrawSeqFor.f kj48 l1).bind fun bt423 => ((impl_SeqFor.f kj48 bt423.1 bt423.2).bind fun bt427 => ((spec_SeqFor.f kj48 bt423.1 bt423.2).bind fun bt429 => (if (bt427.2 == bt429.2) = true then (some (bt427.1 == bt429.1)) else (none)))))) = some r := by rw [if_neg (show ¬ (false = true) by decide)] at H; exact H
                          clear H
                          have H := H1
                          clear H1
                          by_cases c65 : t394 = true
                          · subst c65
                            have H1 : ((impl_MergeHaves.f kj48 t388 t387).bind fun bt404 => (if bt404.2 = true then ((laws_sameHaves.f kj48 bt404.1 t393).bind fun t408 => (laws_FnHaves.j5 kj48 l1 t387 t388 t393 (!t408))) else (none))) = some r := by rw [if_pos rfl] at H; exact H
                            clear H
                            have H := H1
                            clear H1
                            replace H := Option.bind_eq_some_iff.mp H
                            obtain ⟨⟨t404, t405⟩, A660, H⟩ := H
                            replace H : (if t405 = true then ((laws_sameHaves.f kj48 t404 t393).bind fun t408 => (laws_FnHaves.j5 kj48 l1 t387 t388 t393 (!t408))) else (none)) = some r := H
                            have A66 := Aside0.mk A660
                            clear A660
                            have HC67 := Aside0.mk H
                            clear H
                            go_upto_region 34 with (first | ((with_reducible refine gate_callee (f := 28) rfl ?_); refine goesL_ (some 189) rfl rfl Try.func28 (by kernel_rfl) rfl #[.slice Ao52 t388.length co52, .slice Ao51 t387.length co51] rfl (by (try simp only [List.map_toArray, List.map_cons, List.map_nil]); first | done | rfl | (simp only [List.length_drop, List.length_take]; rfl)) ?_; (with_reducible refine (impl_MergeHaves.calls kj48 _ _ t388 _ _ t387 t404 t405 _ ?side1 ?side2 ?side3 ?side4 A66.out).mono ?_); (case side1 => repeat (first | exact (Kd.R_reads' HO_17.out).2.2 | (with_reducible refine Kd.C_alloc ?_ _) | (with_reducible refine Kd.C_drewN ?_ _) | (with_reducible refine Kd.C_drew ?_))); (case side2 => exact (Kd.R_reads' HO_17.out).2.1); (case side3 => repeat (first | exact (Kd.R_reads' HO_16.out).2.2 | (with_reducible refine Kd.C_alloc ?_ _) | (with_reducible refine Kd.C_drewN ?_ _) | (with_reducible refine Kd.C_drew ?_))); (case side4 => exact (Kd.R_reads' HO_16.out).2.1); rintro e w68 ⟨v406, rfl, ho0, hb⟩; refine ⟨_, rfl, ?_⟩; have n0_ := Aside0.mk (Kd.R_elder' (by (with_reducible repeat (first | apply Kd.R_alloc | apply Kd.R_drewN | apply Kd.R_drew)); exact HO_16.out) (Kd.R_base ho0) hb); have n1_ := Aside0.mk (Kd.R_elder' (by (with_reducible repeat (first | apply Kd.R_alloc | apply Kd.R_drewN | apply Kd.R_drew)); exact HO_17.out) (Kd.R_base ho0) hb); have n2_ := Aside0.mk (Kd.R_elder' (by (with_reducible repeat (first | apply Kd.R_alloc | apply Kd.R_drewN | apply Kd.R_drew)); exact HO_18.out) (Kd.R_base ho0) hb); have n3_ := Aside0.mk (Kd.R_lower (Kd.R_new' (Kd.R_new' (Kd.R_new' ho0 (Kd.R_lt (by (with_reducible repeat (first | apply Kd.R_alloc | apply Kd.R_drewN | apply Kd.R_drew)); exact HO_16.out))) (Kd.R_lt (by (with_reducible repeat (first | apply Kd.R_alloc | apply Kd.R_drewN | apply Kd.R_drew)); exact HO_17.out))) (Kd.R_lt (by (with_reducible repeat (first | apply Kd.R_alloc | apply Kd.R_drewN | apply Kd.R_drew)); exact HO_18.out))) (below_size (by repeat (first | (with_reducible first | exact HB.out | apply below_alloc | apply pw_below_drewN | apply below_drew1) | exact HB.out)))); have n4_ := Aside0.mk (below_step (by repeat (first | (with_reducible first | exact HB.out | apply below_alloc | apply pw_below_drewN | apply below_drew1) | exact HB.out)) hb); clear HO_16; clear HO_17; clear HO_18; clear HB; have HO_16 := n0_; have HO_17 := n1_; have HO_18 := n2_; have HO407 := n3_; have HB := n4_; clear n0_ n1_ n2_ n3_ n4_; (try clear hb); (try clear hb2); (try clear hk); (try clear hi); (try clear ho0)))
                            (try simp only [Act.put, List.setIfInBounds_toArray, List.set_cons_zero, List.set_cons_succ])
                            go_cut [199] (fun v199 wc => ∃ (kq : Nat) (x199_66 : Bool), v199 = .bool x199_66 ∧ Aside0 (laws_FnHaves.j5 kq l1 t387 t388 t393 x199_66 = some r) ∧ Aside0 (kq ≤ kj48) ∧ Aside0 (Kd.R k56 56 wc w.heap.size (fun k_ => some k_ ≠ ((.slice Ao52 t388.length co52) : Value).ownBlock ∧ some k_ ≠ (v395 : Value).ownBlock) (.slice Ao51 t387.length co51) t387) ∧ Aside0 (Kd.R k56 56 wc w.heap.size (fun k_ => some k_ ≠ ((.slice Ao51 t387.length co51) : Value).ownBlock ∧ some k_ ≠ (v395 : Value).ownBlock) (.slice Ao52 t388.length co52) t388) ∧ Aside0 (Kd.R k56 56 wc w.heap.size (fun k_ => some k_ ≠ ((.slice Ao51 t387.length co51) : Value).ownBlock ∧ some k_ ≠ ((.slice Ao52 t388.length co52) : Value).ownBlock) v395 t393) ∧ Aside0 (Below w.heap.size w wc))
                            case first =>
                              have H := HC67.out
                              clear HC67
                              by_cases c69 : t405 = true
                              · subst c69
                                have H1 : ((laws_sameHaves.f kj48 t404 t393).bind fun t408 => (laws_FnHaves.j5 kj48 l1 t387 t388 t393 (!t408))) = some r := by rw [if_pos rfl] at H; exact H
                                clear H
                                have H := H1
                                clear H1
                                replace H := Option.bind_eq_some_iff.mp H
                                obtain ⟨t408, A700, H⟩ := H
                                replace H : (laws_FnHaves.j5 kj48 l1 t387 t388 t393 (!t408)) = some r := H
                                have A70 := Aside0.mk A700
                                clear A700
                                as_aux_lemma =>
                                  have H' := Aside0.mk H
                                  clear H
                                  obtain ⟨Ao71, co71, eo71⟩ := Kd.R_slice HO407.out
                                  subst eo71
                                  obtain ⟨Ao72, co72, eo72⟩ := Kd.R_slice HO_18.out
                                  subst eo72
                                  go_wp2_with (first | (go_at_call 31; (with_reducible refine (laws_sameHaves.calls kj48 _ _ t404 _ _ t393 t408 _ ?side1 ?side2 ?side3 ?side4 A70.out).mono ?_); (case side1 => repeat (first | exact (Kd.R_reads' HO407.out).2.2 | (with_reducible refine Kd.C_alloc ?_ _) | (with_reducible refine Kd.C_drewN ?_ _) | (with_reducible refine Kd.C_drew ?_))); (case side2 => exact (Kd.R_reads' HO407.out).2.1); (case side3 => repeat (first | exact (Kd.R_reads' HO_18.out).2.2 | (with_reducible refine Kd.C_alloc ?_ _) | (with_reducible refine Kd.C_drewN ?_ _) | (with_reducible refine Kd.C_drew ?_))); (case side4 => exact (Kd.R_reads' HO_18.out).2.1); rintro e w' ⟨rfl, ⟨nd, rfl⟩⟩))
                                  go_meet
                                  case rel => exact ⟨_, (!t408), (by first | rfl | (simp; done) | (simp [*]; done)), H', ⟨by have := HJ6.out; have := HK2.out; have := HJ26.out; have := HJ48.out; first | omega | exact Nat.le_refl _⟩, ⟨by (with_reducible repeat (first | apply Kd.R_alloc | apply Kd.R_drewN | apply Kd.R_drew)); exact Kd.R_mono HO_16.out (fun _ hk => ⟨hk.1.1, hk.1.2⟩)⟩, ⟨by (with_reducible repeat (first | apply Kd.R_alloc | apply Kd.R_drewN | apply Kd.R_drew)); exact Kd.R_mono HO_17.out (fun _ hk => ⟨hk.1.1, hk.1.2⟩)⟩, ⟨by (with_reducible repeat (first | apply Kd.R_alloc | apply Kd.R_drewN | apply Kd.R_drew)); exact Kd.R_mono HO_18.out (fun _ hk => ⟨hk.1.1, hk.1.2⟩)⟩, ⟨by repeat (first | (with_reducible first | exact HB.out | apply below_alloc | apply pw_below_drewN | apply below_drew1) | exact HB.out)⟩⟩
                              · replace c69 := Bool.eq_false_iff.mpr c69
                                subst c69
                                have H1 : (none) = some r := by rw [if_neg (show ¬ (false = true) by decide)] at H; exact H
                                clear H
                                have H := H1
                                clear H1
                                exact absurd H (by simp)
                            case rest =>
                              clear HC67
                              try clear c1
                              try clear c2
                              try clear p2
                              try clear c3
                              try clear c3b0
                              try clear p3
                              try clear q3
                              try clear hx3
                              try clear c4
                              try clear c5
                              try clear c6
                              try clear p6
                              try clear c8
                              try clear c12
                              try clear c12b0
                              try clear c12b1
                              try clear c12b2
                              try clear c15
                              try clear c17
                              try clear c17b0
                              try clear c18
                              try clear c18b0
                              try clear c19
                              try clear c19b0
                              try clear c20
                              try clear c20b0
                              try clear c21
                              try clear c21b0
                              try clear c21b1
                              try clear c22
                              try clear c22b0
                              try clear c22b1
                              try clear c24
                              try clear c27
                              try clear c28
                              try clear c29
                              try clear c29b0
                              try clear c30
                              try clear c30b0
                              try clear c31
                              try clear c31b0
                              try clear c32
                              try clear c33
                              try clear c34
                              try clear c34b0
                              try clear c34b1
                              try clear c35
                              try clear c35b0
                              try clear c36
                              try clear c37
                              try clear p37
                              try clear q37
                              try clear hx37
                              try clear c38
                              try clear p38
                              try clear q38
                              try clear hx38
                              try clear c43
                              try clear c44
                              try clear c44b0
                              try clear c44b1
                              try clear c55
                              try clear c55b0
                              try clear c55b1
                              try clear c55b2
                              try clear c57
                              try clear c64
                              try clear p64
                              try clear c65
                              try clear c69
                              try clear hcz38_0
                              try clear hcz38_1
                              try clear hcz38_2
                              try clear hcz40_0
                              try clear hcz40_1
                              try clear hcz40_2
                              try clear hfz38_0
                              try clear hfz38_1
                              try clear hfz38_2
                              try clear hfz40_0
                              try clear hfz40_1
                              try clear hfz40_2
                              try clear hx373_0
                              try clear hx373_1
                              try clear hx373_2
                              try clear hx374_0
                              try clear hx374_1
                              try clear hx374_2
                              try clear hx375_0
                              try clear hx375_1
                              try clear hx375_2
                              try clear hx376_0
                              try clear hx376_1
                              try clear hx376_2
                              try clear hx377_0
                              try clear hx377_1
                              try clear hx377_2
                              try clear hx378_0
                              try clear hx378_1
                              try clear hx378_2
                              try clear hx380_0
                              try clear hx380_1
                              try clear hx380_2
                              try clear p2
                              try clear p3
                              try clear p37
                              try clear p373
                              try clear p374
                              try clear p375
                              try clear p376
                              try clear p377
                              try clear p378
                              try clear p38
                              try clear p380
                              try clear p6
                              try clear q3
                              try clear q37
                              try clear q373
                              try clear q374
                              try clear q375
                              try clear q376
                              try clear q377
                              try clear q378
                              try clear q38
                              try clear q380
                              obtain ⟨kq, x199_66, rfl, HA, HJ66, HO_16, HO_17, HO_18, HB⟩ := hcut
                              cases kq with
                              | zero => exact absurd HA.out (by simp [laws_FnHaves.j5])
                              | succ kj66 =>
                                have H := HA.out
                                clear HA
                                simp only [laws_FnHaves.j5] at H
                                by_cases c73 : x199_66 = true
                                · subst c73
                                  have H1 : (none) = some r := by rw [if_pos rfl] at H; exact H
                                  clear H
                                  have H := H1
                                  clear H1
                                  exact absurd H (by simp)
                                · replace c73 := Bool.eq_false_iff.mpr c73
                                  subst c73
                                  have H1 : (laws_FnHaves.l2 kj66 l1 t387 t388 t393 (t393.length : Int) 0) = some r := by rw [if_neg (show ¬ (false = true) by decide)] at H; exact H
                                  clear H
                                  have H := H1
                                  clear H1
                                  have H' := Aside0.mk H
                                  clear H
                                  obtain ⟨Ao74, co74, eo74⟩ := Kd.R_slice HO_18.out
                                  subst eo74
                                  go_wp2
                                  go_loopg [202] kj66 (fun kq v202 w' => ∃ (x202_6 : Int), v202 = .int .i64 x202_6 ∧ Aside0 (laws_FnHaves.l2 kq l1 t387 t388 t393 (t393.length : Int) x202_6 = some r) ∧ Aside0 (kq ≤ kj66) ∧ Aside0 (Kd.R k56 56 w' w.heap.size (fun k_ => some k_ ≠ ((.slice Ao52 t388.length co52) : Value).ownBlock ∧ some k_ ≠ ((.slice Ao74 t393.length co74) : Value).ownBlock) (.slice Ao51 t387.length co51) t387) ∧ Aside0 (Kd.R k56 56 w' w.heap.size (fun k_ => some k_ ≠ ((.slice Ao51 t387.length co51) : Value).ownBlock ∧ some k_ ≠ ((.slice Ao74 t393.length co74) : Value).ownBlock) (.slice Ao52 t388.length co52) t388) ∧ Aside0 (Kd.R k56 56 w' w.heap.size (fun k_ => some k_ ≠ ((.slice Ao51 t387.length co51) : Value).ownBlock ∧ some k_ ≠ ((.slice Ao52 t388.length co52) : Value).ownBlock) (.slice Ao74 t393.length co74) t393) ∧ Aside0 (Below w.heap.size w w'))
                                  case atStart => exact ⟨(0), (by first | rfl | (simp; done) | (simp [*]; done)), H', ⟨Nat.le_refl _⟩, ⟨by (with_reducible repeat (first | apply Kd.R_alloc | apply Kd.R_drewN | apply Kd.R_drew)); exact HO_16.out⟩, ⟨by (with_reducible repeat (first | apply Kd.R_alloc | apply Kd.R_drewN | apply Kd.R_drew)); exact HO_17.out⟩, ⟨by (with_reducible repeat (first | apply Kd.R_alloc | apply Kd.R_drewN | apply Kd.R_drew)); exact HO_18.out⟩, ⟨by repeat (first | (with_reducible first | exact HB.out | apply below_alloc | apply pw_below_drewN | apply below_drew1) | exact HB.out)⟩⟩
                                  case round =>
                                    clear H'
                                    try clear c1
                                    try clear c2
                                    try clear p2
                                    try clear c3
                                    try clear c3b0
                                    try clear p3
                                    try clear q3
                                    try clear hx3
                                    try clear c4
                                    try clear c5
                                    try clear c6
                                    try clear p6
                                    try clear c7
                                    try clear c8
                                    try clear c12
                                    try clear c12b0
                                    try clear c12b1
                                    try clear c12b2
                                    try clear c15
                                    try clear c17
                                    try clear c17b0
                                    try clear c18
                                    try clear c18b0
                                    try clear c19
                                    try clear c19b0
                                    try clear c20
                                    try clear c20b0
                                    try clear c21
                                    try clear c21b0
                                    try clear c21b1
                                    try clear c22
                                    try clear c22b0
                                    try clear c22b1
                                    try clear c24
                                    try clear c27
                                    try clear c28
                                    try clear c29
                                    try clear c29b0
                                    try clear c30
                                    try clear c30b0
                                    try clear c31
                                    try clear c31b0
                                    try clear c32
                                    try clear c33
                                    try clear c34
                                    try clear c34b0
                                    try clear c34b1
                                    try clear c35
                                    try clear c35b0
                                    try clear c36
                                    try clear c37
                                    try clear p37
                                    try clear q37
                                    try clear hx37
                                    try clear c38
                                    try clear p38
                                    try clear q38
                                    try clear hx38
                                    try clear c43
                                    try clear c44
                                    try clear c44b0
                                    try clear c44b1
                                    try clear c55
                                    try clear c55b0
                                    try clear c55b1
                                    try clear c55b2
                                    try clear c57
                                    try clear c64
                                    try clear p64
                                    try clear c65
                                    try clear c69
                                    try clear c73
                                    try clear hcz38_0
                                    try clear hcz38_1
                                    try clear hcz38_2
                                    try clear hcz40_0
                                    try clear hcz40_1
                                    try clear hcz40_2
                                    try clear hfz38_0
                                    try clear hfz38_1
                                    try clear hfz38_2
                                    try clear hfz40_0
                                    try clear hfz40_1
                                    try clear hfz40_2
                                    try clear hx373_0
                                    try clear hx373_1
                                    try clear hx373_2
                                    try clear hx374_0
                                    try clear hx374_1
                                    try clear hx374_2
                                    try clear hx375_0
                                    try clear hx375_1
                                    try clear hx375_2
                                    try clear hx376_0
                                    try clear hx376_1
                                    try clear hx376_2
                                    try clear hx377_0
                                    try clear hx377_1
                                    try clear hx377_2
                                    try clear hx378_0
                                    try clear hx378_1
                                    try clear hx378_2
                                    try clear hx380_0
                                    try clear hx380_1
                                    try clear hx380_2
                                    try clear p2
                                    try clear p3
                                    try clear p37
                                    try clear p373
                                    try clear p374
                                    try clear p375
                                    try clear p376
                                    try clear p377
                                    try clear p378
                                    try clear p38
                                    try clear p380
                                    try clear p6
                                    try clear p64
                                    try clear q3
                                    try clear q37
                                    try clear q373
                                    try clear q374
                                    try clear q375
                                    try clear q376
                                    try clear q377
                                    try clear q378
                                    try clear q38
                                    try clear q380
                                    obtain ⟨x202_6, rfl, HA, HK6, HO_16, HO_17, HO_200, HB⟩ := hrel
                                    cases gk with
                                    | zero => exact absurd HA.out (by simp [laws_FnHaves.l2])
                                    | succ k6 =>
                                      have H := HA.out
                                      clear HA
                                      simp only [laws_FnHaves.l2] at H
                                      by_cases c75 : x202_6 < (t393.length : Int)
                                      · rw [if_pos c75] at H
                                        have c75b0 : decide (x202_6 < (t393.length : Int)) = true := decide_eq_true c75
                                        clear c75
                                        by_cases c76 : 0 ≤ x202_6
                                        · rw [if_pos c76] at H
                                          have c76b0 : decide (0 ≤ x202_6) = true := decide_eq_true c76
                                          clear c76
                                          by_cases c77 : x202_6 < (t393.length : Int)
                                          · rw [if_pos c77] at H
                                            have c77b0 : decide (x202_6 < (t393.length : Int)) = true := decide_eq_true c77
                                            clear c77
                                            replace H := Option.bind_eq_some_iff.mp H
                                            obtain ⟨⟨t419, t420⟩, A780, H⟩ := H
                                            replace H : ((impl_SeqFor.f k6 t388 ((rd_T56 t393 x202_6).f0)).bind fun bt421 => (if t420 = true then (if bt421.2 = true then (if ((rd_T56 t393 x202_6).f1) = t419 then (if ((rd_T56 t393 x202_6).f1) < t419 then (none) else (if ((rd_T56 t393 x202_6).f1) < bt421.1 then (none) else (laws_FnHaves.l2 k6 l1 t387 t388 t393 (t393.length : Int) (wrap64 (x202_6 + 1))))) else (if ((rd_T56 t393 x202_6).f1) = bt421.1 then (if ((rd_T56 t393 x202_6).f1) < t419 then (none) else (if ((rd_T56 t393 x202_6).f1) < bt421.1 then (none) else (laws_FnHaves.l2 k6 l1 t387 t388 t393 (t393.length : Int) (wrap64 (x202_6 + 1))))) else (none))) else (none)) else (none))) = some r := H
                                            have A78 := Aside0.mk A780
                                            clear A780
                                            replace H := Option.bind_eq_some_iff.mp H
                                            obtain ⟨⟨t421, t422⟩, A790, H⟩ := H
                                            replace H : (if t420 = true then (if t422 = true then (if ((rd_T56 t393 x202_6).f1) = t419 then (if ((rd_T56 t393 x202_6).f1) < t419 then (none) else (if ((rd_T56 t393 x202_6).f1) < t421 then (none) else (laws_FnHaves.l2 k6 l1 t387 t388 t393 (t393.length : Int) (wrap64 (x202_6 + 1))))) else (if ((rd_T56 t393 x202_6).f1) = t421 then (if ((rd_T56 t393 x202_6).f1) < t419 then (none) else (if ((rd_T56 t393 x202_6).f1) < t421 then (none) else (laws_FnHaves.l2 k6 l1 t387 t388 t393 (t393.length : Int) (wrap64 (x202_6 + 1))))) else (none))) else (none)) else (none)) = some r := H
                                            have A79 := Aside0.mk A790
                                            clear A790
                                            by_cases c80 : t420 = true
                                            · subst c80
                                              have H1 : (if t422 = true then (if ((rd_T56 t393 x202_6).f1) = t419 then (if ((rd_T56 t393 x202_6).f1) < t419 then (none) else (if ((rd_T56 t393 x202_6).f1) < t421 then (none) else (laws_FnHaves.l2 k6 l1 t387 t388 t393 (t393.length : Int) (wrap64 (x202_6 + 1))))) else (if ((rd_T56 t393 x202_6).f1) = t421 then (if ((rd_T56 t393 x202_6).f1) < t419 then (none) else (if ((rd_T56 t393 x202_6).f1) < t421 then (none) else (laws_FnHaves.l2 k6 l1 t387 t388 t393 (t393.length : Int) (wrap64 (x202_6 + 1))))) else (none))) else (none)) = some r := by rw [if_pos rfl] at H; exact H
                                              clear H
                                              have H := H1
                                              clear H1
                                              by_cases c81 : t422 = true
                                              · subst c81
                                                have H1 : (if ((rd_T56 t393 x202_6).f1) = t419 then (if ((rd_T56 t393 x202_6).f1) < t419 then (none) else (if ((rd_T56 t393 x202_6).f1) < t421 then (none) else (laws_FnHaves.l2 k6 l1 t387 t388 t393 (t393.length : Int) (wrap64 (x202_6 + 1))))) else (if ((rd_T56 t393 x202_6).f1) = t421 then (if ((rd_T56 t393 x202_6).f1) < t419 then (none) else (if ((rd_T56 t393 x202_6).f1) < t421 then (none) else (laws_FnHaves.l2 k6 l1 t387 t388 t393 (t393.length : Int) (wrap64 (x202_6 + 1))))) else (none))) = some r := by rw [if_pos rfl] at H; exact H
                                                clear H
                                                have H := H1
                                                clear H1
                                                by_cases c82 : ((rd_T56 t393 x202_6).f1) = t419
                                                · rw [if_pos c82] at H
                                                  have c82b0 : (((rd_T56 t393 x202_6).f1) == t419) = true := beq_iff_eq.mpr c82
                                                  have c82b1 : (((rd_T56 t393 x202_6).f1) != t419) = false := bne_eq_false_iff_eq.mpr c82
                                                  clear c82
                                                  by_cases c83 : ((rd_T56 t393 x202_6).f1) < t419
                                                  · rw [if_pos c83] at H
                                                    exact absurd H (by simp)
                                                  · rw [if_neg c83] at H
                                                    have c83b0 : decide (((rd_T56 t393 x202_6).f1) < t419) = false := decide_eq_false c83
                                                    clear c83
                                                    by_cases c84 : ((rd_T56 t393 x202_6).f1) < t421
                                                    · rw [if_pos c84] at H
                                                      exact absurd H (by simp)
                                                    · rw [if_neg c84] at H
                                                      have c84b0 : decide (((rd_T56 t393 x202_6).f1) < t421) = false := decide_eq_false c84
                                                      clear c84
                                                      as_aux_lemma =>
                                                        have H' := Aside0.mk H
                                                        clear H
                                                        have p417 : 0 ≤ (x202_6 : Int) := of_decide_eq_true (by first | (with_reducible assumption) | assumption)
                                                        have q417 : x202_6 < (t393.length : Int) := of_decide_eq_true (by first | (with_reducible assumption) | assumption)
                                                        obtain ⟨ad417, e417, hx417_0, hx417_1⟩ := at_T56 (Kd.R_reads' HO_200.out).2.2 x202_6 p417 q417
                                                        cases e417
                                                        replace p417 := eq_true p417
                                                        replace q417 := eq_true q417
                                                        go_wp2_with (first | ((with_reducible refine gate_dst (N := 25) rfl ?_); (try (refine gate_guard (by rfl) ?_; dsimp only)); refine box_event ?hg (N := 25) ?hd (cs := #[.int .i64 0, .int .i64 0]) (t := 56) ?hr ?_; (case hd => rfl); (case hg => rfl); (case hr => first | (go_simp; done) | (go_simp; rfl)); intro gb418 hg w85 hbox hb; have n0_ := Aside0.mk (Kd.R_below (Kd.R_elderB (by (with_reducible repeat (first | apply Kd.R_alloc | apply Kd.R_drewN | apply Kd.R_drew)); exact HO_16.out) gb418 (Nat.le_of_eq hg.symm)) hb); have n1_ := Aside0.mk (Kd.R_below (Kd.R_elderB (by (with_reducible repeat (first | apply Kd.R_alloc | apply Kd.R_drewN | apply Kd.R_drew)); exact HO_17.out) gb418 (Nat.le_of_eq hg.symm)) hb); have n2_ := Aside0.mk (Kd.R_below (Kd.R_elderB (by (with_reducible repeat (first | apply Kd.R_alloc | apply Kd.R_drewN | apply Kd.R_drew)); exact HO_200.out) gb418 (Nat.le_of_eq hg.symm)) hb); have n3_ := Aside0.mk (below_step (by repeat (first | (with_reducible first | exact HB.out | apply below_alloc | apply pw_below_drewN | apply below_drew1) | exact HB.out)) hb); have n4_ := Aside0.mk (hbox); have n5_ := Aside0.mk ((by rw [hg]; exact (below_size (by repeat (first | (with_reducible first | exact HB.out | apply below_alloc | apply pw_below_drewN | apply below_drew1) | exact HB.out))) : w.heap.size ≤ gb418)); have n6_ := Aside0.mk ((by rw [hg]; exact (below_size (by repeat (first | (with_reducible first | exact HB.out | apply below_alloc | apply pw_below_drewN | apply below_drew1) | exact HB.out))) : w.heap.size ≤ gb418)); clear HO_16; clear HO_17; clear HO_200; clear HB; have HO_16 := n0_; have HO_17 := n1_; have HO_200 := n2_; have HB := n3_; have BK418 := n4_; have GW418 := n5_; have GE418 := n6_; clear n0_ n1_ n2_ n3_ n4_ n5_ n6_; clear hb hbox hg; have hcz86_0 : w85.cell? ⟨gb418, 0, none⟩ = some (.int .i64 0) := (blk_cell BK418.out 0).trans rfl; have hcz86_1 : w85.cell? ⟨gb418, 1, none⟩ = some (.int .i64 0) := (blk_cell BK418.out 1).trans rfl; have hfz86_0 := blk_frozen BK418.out 0; have hfz86_1 := blk_frozen BK418.out 1) | ((with_reducible refine gate_callee (f := 15) rfl ?_); refine goesL_ (some 210) rfl rfl Try.func15 (by kernel_rfl) rfl #[.slice Ao51 t387.length co51, .int .i64 ((rd_T56 t393 x202_6).f0)] rfl (by (try simp only [List.map_toArray, List.map_cons, List.map_nil]); first | done | rfl | (simp only [List.length_drop, List.length_take]; rfl)) ?_; (with_reducible refine (impl_SeqFor.calls k6 _ _ t387 ((rd_T56 t393 x202_6).f0) t419 true _ ?side1 ?side2 A78.out).mono ?_); (case side1 => refine (Kd.R_reads' (e := 56) (base := w.heap.size) (ok := fun k_ => ((some k_ ≠ (.slice Ao52 t388.length co52 : Value).ownBlock ∧ some k_ ≠ (.slice (some ad417) t393.length co74 : Value).ownBlock) ∧ k_ ≠ gb418)) (n := t387.length) (c := co51) ?_).2.2; exact (by (with_reducible repeat (first | apply Kd.R_alloc | apply Kd.R_drewN | apply Kd.R_drew)); exact (Kd.R_mono (Kd.R_far (p := ⟨gb418, 1, none⟩) (Kd.R_far (p := ⟨gb418, 0, none⟩) (Kd.R_mono HO_16.out (fun k_ hk => (⟨hk, hk.2⟩ : _ ∧ k_ ≠ gb418))) (fun _ hk => hk.2) (.int .i64 ((rd_T56 t393 x202_6).f0))) (fun _ hk => hk.2) (.int .i64 ((rd_T56 t393 x202_6).f1))) (fun _ h_ => h_.1)))); (case side2 => exact (Kd.R_reads' HO_16.out).2.1); rintro e w87 ⟨rfl, hb⟩; refine ⟨_, rfl, ?_⟩; have n0_ := Aside0.mk (Kd.R_below (by (with_reducible repeat (first | apply Kd.R_alloc | apply Kd.R_drewN | apply Kd.R_drew)); exact (Kd.R_mono (Kd.R_far (p := ⟨gb418, 1, none⟩) (Kd.R_far (p := ⟨gb418, 0, none⟩) (Kd.R_mono HO_16.out (fun k_ hk => (⟨hk, hk.2⟩ : _ ∧ k_ ≠ gb418))) (fun _ hk => hk.2) (.int .i64 ((rd_T56 t393 x202_6).f0))) (fun _ hk => hk.2) (.int .i64 ((rd_T56 t393 x202_6).f1))) (fun _ h_ => h_.1))) hb); have n1_ := Aside0.mk (Kd.R_below (by (with_reducible repeat (first | apply Kd.R_alloc | apply Kd.R_drewN | apply Kd.R_drew)); exact (Kd.R_mono (Kd.R_far (p := ⟨gb418, 1, none⟩) (Kd.R_far (p := ⟨gb418, 0, none⟩) (Kd.R_mono HO_17.out (fun k_ hk => (⟨hk, hk.2⟩ : _ ∧ k_ ≠ gb418))) (fun _ hk => hk.2) (.int .i64 ((rd_T56 t393 x202_6).f0))) (fun _ hk => hk.2) (.int .i64 ((rd_T56 t393 x202_6).f1))) (fun _ h_ => h_.1))) hb); have n2_ := Aside0.mk (Kd.R_below (by (with_reducible repeat (first | apply Kd.R_alloc | apply Kd.R_drewN | apply Kd.R_drew)); exact (Kd.R_mono (Kd.R_far (p := ⟨gb418, 1, none⟩) (Kd.R_far (p := ⟨gb418, 0, none⟩) (Kd.R_mono HO_200.out (fun k_ hk => (⟨hk, hk.2⟩ : _ ∧ k_ ≠ gb418))) (fun _ hk => hk.2) (.int .i64 ((rd_T56 t393 x202_6).f0))) (fun _ hk => hk.2) (.int .i64 ((rd_T56 t393 x202_6).f1))) (fun _ h_ => h_.1))) hb); have n3_ := Aside0.mk (blk_below (g := gb418) (o := .cells #[.int .i64 ((rd_T56 t393 x202_6).f0), .int .i64 ((rd_T56 t393 x202_6).f1)] 56 (0, 0)) (by (with_reducible repeat (first | refine blk_drewN ?_ _ | refine blk_drew ?_ | refine blk_alloc ?_ _)); refine blk_put (cs := #[.int .i64 ((rd_T56 t393 x202_6).f0), .int .i64 0]) ?_ 1 _ rfl; (with_reducible repeat (first | refine blk_drewN ?_ _ | refine blk_drew ?_ | refine blk_alloc ?_ _)); refine blk_put (cs := #[.int .i64 0, .int .i64 0]) ?_ 0 _ rfl; (with_reducible repeat (first | refine blk_drewN ?_ _ | refine blk_drew ?_ | refine blk_alloc ?_ _)); exact BK418.out) hb); have n4_ := Aside0.mk (below_step (by repeat (first | (with_reducible first | exact HB.out | apply below_alloc | apply pw_below_drewN | apply below_drew1 | refine below_set ?_ GE418.out) | exact HB.out)) hb); clear HO_16; clear HO_17; clear HO_200; clear BK418; clear HB; have HO_16 := n0_; have HO_17 := n1_; have HO_200 := n2_; have BK418 := n3_; have HB := n4_; clear n0_ n1_ n2_ n3_ n4_; (try clear hb); (try clear hb2); (try clear hk); (try clear hi); have hcz88_0 : w87.cell? ⟨gb418, 0, none⟩ = some (.int .i64 ((rd_T56 t393 x202_6).f0)) := (blk_cell BK418.out 0).trans rfl; have hcz88_1 : w87.cell? ⟨gb418, 1, none⟩ = some (.int .i64 ((rd_T56 t393 x202_6).f1)) := (blk_cell BK418.out 1).trans rfl; have hfz88_0 := blk_frozen BK418.out 0; have hfz88_1 := blk_frozen BK418.out 1) | ((with_reducible refine gate_callee (f := 15) rfl ?_); refine goesL_ (some 217) rfl rfl Try.func15 (by kernel_rfl) rfl #[.slice Ao52 t388.length co52, .int .i64 ((rd_T56 t393 x202_6).f0)] rfl (by (try simp only [List.map_toArray, List.map_cons, List.map_nil]); first | done | rfl | (simp only [List.length_drop, List.length_take]; rfl)) ?_; (with_reducible refine (impl_SeqFor.calls k6 _ _ t388 ((rd_T56 t393 x202_6).f0) t421 true _ ?side1 ?side2 A79.out).mono ?_); (case side1 => repeat (first | exact (Kd.R_reads' HO_17.out).2.2 | (with_reducible refine Kd.C_alloc ?_ _) | (with_reducible refine Kd.C_drewN ?_ _) | (with_reducible refine Kd.C_drew ?_))); (case side2 => exact (Kd.R_reads' HO_17.out).2.1); rintro e w89 ⟨rfl, hb⟩; refine ⟨_, rfl, ?_⟩; have n0_ := Aside0.mk (Kd.R_below (by (with_reducible repeat (first | apply Kd.R_alloc | apply Kd.R_drewN | apply Kd.R_drew)); exact HO_16.out) hb); have n1_ := Aside0.mk (Kd.R_below (by (with_reducible repeat (first | apply Kd.R_alloc | apply Kd.R_drewN | apply Kd.R_drew)); exact HO_17.out) hb); have n2_ := Aside0.mk (Kd.R_below (by (with_reducible repeat (first | apply Kd.R_alloc | apply Kd.R_drewN | apply Kd.R_drew)); exact HO_200.out) hb); have n3_ := Aside0.mk (blk_below (g := gb418) (o := .cells #[.int .i64 ((rd_T56 t393 x202_6).f0), .int .i64 ((rd_T56 t393 x202_6).f1)] 56 (0, 0)) (by (with_reducible repeat (first | refine blk_drewN ?_ _ | refine blk_drew ?_ | refine blk_alloc ?_ _)); exact BK418.out) hb); have n4_ := Aside0.mk (below_step (by repeat (first | (with_reducible first | exact HB.out | apply below_alloc | apply pw_below_drewN | apply below_drew1 | refine below_set ?_ GE418.out) | exact HB.out)) hb); clear HO_16; clear HO_17; clear HO_200; clear BK418; clear HB; have HO_16 := n0_; have HO_17 := n1_; have HO_200 := n2_; have BK418 := n3_; have HB := n4_; clear n0_ n1_ n2_ n3_ n4_; (try clear hb); (try clear hb2); (try clear hk); (try clear hi); have hcz90_0 : w89.cell? ⟨gb418, 0, none⟩ = some (.int .i64 ((rd_T56 t393 x202_6).f0)) := (blk_cell BK418.out 0).trans rfl; have hcz90_1 : w89.cell? ⟨gb418, 1, none⟩ = some (.int .i64 ((rd_T56 t393 x202_6).f1)) := (blk_cell BK418.out 1).trans rfl; have hfz90_0 := blk_frozen BK418.out 0; have hfz90_1 := blk_frozen BK418.out 1))
                                                        go_roundg k6
                                                        case measure => have := HJ6.out; have := HK2.out; have := HJ26.out; have := HJ48.out; have := HJ66.out; have := HK6.out; omega
                                                        case rel => exact ⟨(wrap64 (x202_6 + 1)), (by first | rfl | (simp; done) | (simp [*]; done)), H', ⟨by have := HJ6.out; have := HK2.out; have := HJ26.out; have := HJ48.out; have := HJ66.out; have := HK6.out; omega⟩, ⟨by (with_reducible repeat (first | apply Kd.R_alloc | apply Kd.R_drewN | apply Kd.R_drew)); exact Kd.R_mono HO_16.out (fun _ hk => ⟨hk.1.1, hk.1.2⟩)⟩, ⟨by (with_reducible repeat (first | apply Kd.R_alloc | apply Kd.R_drewN | apply Kd.R_drew)); exact Kd.R_mono HO_17.out (fun _ hk => ⟨hk.1.1, hk.1.2⟩)⟩, ⟨by (with_reducible repeat (first | apply Kd.R_alloc | apply Kd.R_drewN | apply Kd.R_drew)); exact Kd.R_mono HO_200.out (fun _ hk => ⟨hk.1.1, hk.1.2⟩)⟩, ⟨by repeat (first | (with_reducible first | exact HB.out | apply below_alloc | apply pw_below_drewN | apply below_drew1 | refine below_set ?_ GE418.out) | exact HB.out)⟩⟩
                                                · rw [if_neg c82] at H
                                                  have c82b0 : (((rd_T56 t393 x202_6).f1) == t419) = false := beq_eq_false_iff_ne.mpr c82
                                                  have c82b1 : (((rd_T56 t393 x202_6).f1) != t419) = true := bne_iff_ne.mpr c82
                                                  by_cases c91 : ((rd_T56 t393 x202_6).f1) = t421
                                                  · rw [if_pos c91] at H
                                                    have c91b0 : (((rd_T56 t393 x202_6).f1) == t421) = true := beq_iff_eq.mpr c91
                                                    have c91b1 : (((rd_T56 t393 x202_6).f1) != t421) = false := bne_eq_false_iff_eq.mpr c91
                                                    clear c91
                                                    by_cases c92 : ((rd_T56 t393 x202_6).f1) < t419
                                                    · rw [if_pos c92] at H
                                                      exact absurd H (by simp)
                                                    · rw [if_neg c92] at H
                                                      have c92b0 : decide (((rd_T56 t393 x202_6).f1) < t419) = false := decide_eq_false c92
                                                      clear c92
                                                      by_cases c93 : ((rd_T56 t393 x202_6).f1) < t421
                                                      · rw [if_pos c93] at H
                                                        exact absurd H (by simp)
                                                      · rw [if_neg c93] at H
                                                        have c93b0 : decide (((rd_T56 t393 x202_6).f1) < t421) = false := decide_eq_false c93
                                                        clear c93
                                                        as_aux_lemma =>
                                                          have H' := Aside0.mk H
                                                          clear H
                                                          have p417 : 0 ≤ (x202_6 : Int) := of_decide_eq_true (by first | (with_reducible assumption) | assumption)
                                                          have q417 : x202_6 < (t393.length : Int) := of_decide_eq_true (by first | (with_reducible assumption) | assumption)
                                                          obtain ⟨ad417, e417, hx417_0, hx417_1⟩ := at_T56 (Kd.R_reads' HO_200.out).2.2 x202_6 p417 q417
                                                          cases e417
                                                          replace p417 := eq_true p417
                                                          replace q417 := eq_true q417
                                                          go_wp2_with (first | ((with_reducible refine gate_dst (N := 25) rfl ?_); (try (refine gate_guard (by rfl) ?_; dsimp only)); refine box_event ?hg (N := 25) ?hd (cs := #[.int .i64 0, .int .i64 0]) (t := 56) ?hr ?_; (case hd => rfl); (case hg => rfl); (case hr => first | (go_simp; done) | (go_simp; rfl)); intro gb418 hg w94 hbox hb; have n0_ := Aside0.mk (Kd.R_below (Kd.R_elderB (by (with_reducible repeat (first | apply Kd.R_alloc | apply Kd.R_drewN | apply Kd.R_drew)); exact HO_16.out) gb418 (Nat.le_of_eq hg.symm)) hb); have n1_ := Aside0.mk (Kd.R_below (Kd.R_elderB (by (with_reducible repeat (first | apply Kd.R_alloc | apply Kd.R_drewN | apply Kd.R_drew)); exact HO_17.out) gb418 (Nat.le_of_eq hg.symm)) hb); have n2_ := Aside0.mk (Kd.R_below (Kd.R_elderB (by (with_reducible repeat (first | apply Kd.R_alloc | apply Kd.R_drewN | apply Kd.R_drew)); exact HO_200.out) gb418 (Nat.le_of_eq hg.symm)) hb); have n3_ := Aside0.mk (below_step (by repeat (first | (with_reducible first | exact HB.out | apply below_alloc | apply pw_below_drewN | apply below_drew1) | exact HB.out)) hb); have n4_ := Aside0.mk (hbox); have n5_ := Aside0.mk ((by rw [hg]; exact (below_size (by repeat (first | (with_reducible first | exact HB.out | apply below_alloc | apply pw_below_drewN | apply below_drew1) | exact HB.out))) : w.heap.size ≤ gb418)); have n6_ := Aside0.mk ((by rw [hg]; exact (below_size (by repeat (first | (with_reducible first | exact HB.out | apply below_alloc | apply pw_below_drewN | apply below_drew1) | exact HB.out))) : w.heap.size ≤ gb418)); clear HO_16; clear HO_17; clear HO_200; clear HB; have HO_16 := n0_; have HO_17 := n1_; have HO_200 := n2_; have HB := n3_; have BK418 := n4_; have GW418 := n5_; have GE418 := n6_; clear n0_ n1_ n2_ n3_ n4_ n5_ n6_; clear hb hbox hg; have hcz95_0 : w94.cell? ⟨gb418, 0, none⟩ = some (.int .i64 0) := (blk_cell BK418.out 0).trans rfl; have hcz95_1 : w94.cell? ⟨gb418, 1, none⟩ = some (.int .i64 0) := (blk_cell BK418.out 1).trans rfl; have hfz95_0 := blk_frozen BK418.out 0; have hfz95_1 := blk_frozen BK418.out 1) | ((with_reducible refine gate_callee (f := 15) rfl ?_); refine goesL_ (some 210) rfl rfl Try.func15 (by kernel_rfl) rfl #[.slice Ao51 t387.length co51, .int .i64 ((rd_T56 t393 x202_6).f0)] rfl (by (try simp only [List.map_toArray, List.map_cons, List.map_nil]); first | done | rfl | (simp only [List.length_drop, List.length_take]; rfl)) ?_; (with_reducible refine (impl_SeqFor.calls k6 _ _ t387 ((rd_T56 t393 x202_6).f0) t419 true _ ?side1 ?side2 A78.out).mono ?_); (case side1 => refine (Kd.R_reads' (e := 56) (base := w.heap.size) (ok := fun k_ => ((some k_ ≠ (.slice Ao52 t388.length co52 : Value).ownBlock ∧ some k_ ≠ (.slice (some ad417) t393.length co74 : Value).ownBlock) ∧ k_ ≠ gb418)) (n := t387.length) (c := co51) ?_).2.2; exact (by (with_reducible repeat (first | apply Kd.R_alloc | apply Kd.R_drewN | apply Kd.R_drew)); exact (Kd.R_mono (Kd.R_far (p := ⟨gb418, 1, none⟩) (Kd.R_far (p := ⟨gb418, 0, none⟩) (Kd.R_mono HO_16.out (fun k_ hk => (⟨hk, hk.2⟩ : _ ∧ k_ ≠ gb418))) (fun _ hk => hk.2) (.int .i64 ((rd_T56 t393 x202_6).f0))) (fun _ hk => hk.2) (.int .i64 ((rd_T56 t393 x202_6).f1))) (fun _ h_ => h_.1)))); (case side2 => exact (Kd.R_reads' HO_16.out).2.1); rintro e w96 ⟨rfl, hb⟩; refine ⟨_, rfl, ?_⟩; have n0_ := Aside0.mk (Kd.R_below (by (with_reducible repeat (first | apply Kd.R_alloc | apply Kd.R_drewN | apply Kd.R_drew)); exact (Kd.R_mono (Kd.R_far (p := ⟨gb418, 1, none⟩) (Kd.R_far (p := ⟨gb418, 0, none⟩) (Kd.R_mono HO_16.out (fun k_ hk => (⟨hk, hk.2⟩ : _ ∧ k_ ≠ gb418))) (fun _ hk => hk.2) (.int .i64 ((rd_T56 t393 x202_6).f0))) (fun _ hk => hk.2) (.int .i64 ((rd_T56 t393 x202_6).f1))) (fun _ h_ => h_.1))) hb); have n1_ := Aside0.mk (Kd.R_below (by (with_reducible repeat (first | apply Kd.R_alloc | apply Kd.R_drewN | apply Kd.R_drew)); exact (Kd.R_mono (Kd.R_far (p := ⟨gb418, 1, none⟩) (Kd.R_far (p := ⟨gb418, 0, none⟩) (Kd.R_mono HO_17.out (fun k_ hk => (⟨hk, hk.2⟩ : _ ∧ k_ ≠ gb418))) (fun _ hk => hk.2) (.int .i64 ((rd_T56 t393 x202_6).f0))) (fun _ hk => hk.2) (.int .i64 ((rd_T56 t393 x202_6).f1))) (fun _ h_ => h_.1))) hb); have n2_ := Aside0.mk (Kd.R_below (by (with_reducible repeat (first | apply Kd.R_alloc | apply Kd.R_drewN | apply Kd.R_drew)); exact (Kd.R_mono (Kd.R_far (p := ⟨gb418, 1, none⟩) (Kd.R_far (p := ⟨gb418, 0, none⟩) (Kd.R_mono HO_200.out (fun k_ hk => (⟨hk, hk.2⟩ : _ ∧ k_ ≠ gb418))) (fun _ hk => hk.2) (.int .i64 ((rd_T56 t393 x202_6).f0))) (fun _ hk => hk.2) (.int .i64 ((rd_T56 t393 x202_6).f1))) (fun _ h_ => h_.1))) hb); have n3_ := Aside0.mk (blk_below (g := gb418) (o := .cells #[.int .i64 ((rd_T56 t393 x202_6).f0), .int .i64 ((rd_T56 t393 x202_6).f1)] 56 (0, 0)) (by (with_reducible repeat (first | refine blk_drewN ?_ _ | refine blk_drew ?_ | refine blk_alloc ?_ _)); refine blk_put (cs := #[.int .i64 ((rd_T56 t393 x202_6).f0), .int .i64 0]) ?_ 1 _ rfl; (with_reducible repeat (first | refine blk_drewN ?_ _ | refine blk_drew ?_ | refine blk_alloc ?_ _)); refine blk_put (cs := #[.int .i64 0, .int .i64 0]) ?_ 0 _ rfl; (with_reducible repeat (first | refine blk_drewN ?_ _ | refine blk_drew ?_ | refine blk_alloc ?_ _)); exact BK418.out) hb); have n4_ := Aside0.mk (below_step (by repeat (first | (with_reducible first | exact HB.out | apply below_alloc | apply pw_below_drewN | apply below_drew1 | refine below_set ?_ GE418.out) | exact HB.out)) hb); clear HO_16; clear HO_17; clear HO_200; clear BK418; clear HB; have HO_16 := n0_; have HO_17 := n1_; have HO_200 := n2_; have BK418 := n3_; have HB := n4_; clear n0_ n1_ n2_ n3_ n4_; (try clear hb); (try clear hb2); (try clear hk); (try clear hi); have hcz97_0 : w96.cell? ⟨gb418, 0, none⟩ = some (.int .i64 ((rd_T56 t393 x202_6).f0)) := (blk_cell BK418.out 0).trans rfl; have hcz97_1 : w96.cell? ⟨gb418, 1, none⟩ = some (.int .i64 ((rd_T56 t393 x202_6).f1)) := (blk_cell BK418.out 1).trans rfl; have hfz97_0 := blk_frozen BK418.out 0; have hfz97_1 := blk_frozen BK418.out 1) | ((with_reducible refine gate_callee (f := 15) rfl ?_); refine goesL_ (some 217) rfl rfl Try.func15 (by kernel_rfl) rfl #[.slice Ao52 t388.length co52, .int .i64 ((rd_T56 t393 x202_6).f0)] rfl (by (try simp only [List.map_toArray, List.map_cons, List.map_nil]); first | done | rfl | (simp only [List.length_drop, List.length_take]; rfl)) ?_; (with_reducible refine (impl_SeqFor.calls k6 _ _ t388 ((rd_T56 t393 x202_6).f0) t421 true _ ?side1 ?side2 A79.out).mono ?_); (case side1 => repeat (first | exact (Kd.R_reads' HO_17.out).2.2 | (with_reducible refine Kd.C_alloc ?_ _) | (with_reducible refine Kd.C_drewN ?_ _) | (with_reducible refine Kd.C_drew ?_))); (case side2 => exact (Kd.R_reads' HO_17.out).2.1); rintro e w98 ⟨rfl, hb⟩; refine ⟨_, rfl, ?_⟩; have n0_ := Aside0.mk (Kd.R_below (by (with_reducible repeat (first | apply Kd.R_alloc | apply Kd.R_drewN | apply Kd.R_drew)); exact HO_16.out) hb); have n1_ := Aside0.mk (Kd.R_below (by (with_reducible repeat (first | apply Kd.R_alloc | apply Kd.R_drewN | apply Kd.R_drew)); exact HO_17.out) hb); have n2_ := Aside0.mk (Kd.R_below (by (with_reducible repeat (first | apply Kd.R_alloc | apply Kd.R_drewN | apply Kd.R_drew)); exact HO_200.out) hb); have n3_ := Aside0.mk (blk_below (g := gb418) (o := .cells #[.int .i64 ((rd_T56 t393 x202_6).f0), .int .i64 ((rd_T56 t393 x202_6).f1)] 56 (0, 0)) (by (with_reducible repeat (first | refine blk_drewN ?_ _ | refine blk_drew ?_ | refine blk_alloc ?_ _)); exact BK418.out) hb); have n4_ := Aside0.mk (below_step (by repeat (first | (with_reducible first | exact HB.out | apply below_alloc | apply pw_below_drewN | apply below_drew1 | refine below_set ?_ GE418.out) | exact HB.out)) hb); clear HO_16; clear HO_17; clear HO_200; clear BK418; clear HB; have HO_16 := n0_; have HO_17 := n1_; have HO_200 := n2_; have BK418 := n3_; have HB := n4_; clear n0_ n1_ n2_ n3_ n4_; (try clear hb); (try clear hb2); (try clear hk); (try clear hi); have hcz99_0 : w98.cell? ⟨gb418, 0, none⟩ = some (.int .i64 ((rd_T56 t393 x202_6).f0)) := (blk_cell BK418.out 0).trans rfl; have hcz99_1 : w98.cell? ⟨gb418, 1, none⟩ = some (.int .i64 ((rd_T56 t393 x202_6).f1)) := (blk_cell BK418.out 1).trans rfl; have hfz99_0 := blk_frozen BK418.out 0; have hfz99_1 := blk_frozen BK418.out 1))
                                                          go_roundg k6
                                                          case measure => have := HJ6.out; have := HK2.out; have := HJ26.out; have := HJ48.out; have := HJ66.out; have := HK6.out; omega
                                                          case rel => exact ⟨(wrap64 (x202_6 + 1)), (by first | rfl | (simp; done) | (simp [*]; done)), H', ⟨by have := HJ6.out; have := HK2.out; have := HJ26.out; have := HJ48.out; have := HJ66.out; have := HK6.out; omega⟩, ⟨by (with_reducible repeat (first | apply Kd.R_alloc | apply Kd.R_drewN | apply Kd.R_drew)); exact Kd.R_mono HO_16.out (fun _ hk => ⟨hk.1.1, hk.1.2⟩)⟩, ⟨by (with_reducible repeat (first | apply Kd.R_alloc | apply Kd.R_drewN | apply Kd.R_drew)); exact Kd.R_mono HO_17.out (fun _ hk => ⟨hk.1.1, hk.1.2⟩)⟩, ⟨by (with_reducible repeat (first | apply Kd.R_alloc | apply Kd.R_drewN | apply Kd.R_drew)); exact Kd.R_mono HO_200.out (fun _ hk => ⟨hk.1.1, hk.1.2⟩)⟩, ⟨by repeat (first | (with_reducible first | exact HB.out | apply below_alloc | apply pw_below_drewN | apply below_drew1 | refine below_set ?_ GE418.out) | exact HB.out)⟩⟩
                                                  · rw [if_neg c91] at H
                                                    exact absurd H (by simp)
                                              · replace c81 := Bool.eq_false_iff.mpr c81
                                                subst c81
                                                have H1 : (none) = some r := by rw [if_neg (show ¬ (false = true) by decide)] at H; exact H
                                                clear H
                                                have H := H1
                                                clear H1
                                                exact absurd H (by simp)
                                            · replace c80 := Bool.eq_false_iff.mpr c80
                                              subst c80
                                              have H1 : (none) = some r := by rw [if_neg (show ¬ (false = true) by decide)] at H; exact H
                                              clear H
                                              have H := H1
                                              clear H1
                                              exact absurd H (by simp)
                                          · rw [if_neg c77] at H
                                            exact absurd H (by simp)
                                        · rw [if_neg c76] at H
                                          exact absurd H (by simp)
                                      · rw [if_neg c75] at H
                                        have c75b0 : decide (x202_6 < (t393.length : Int)) = false := decide_eq_false c75
                                        clear c75
                                        replace H := Option.bind_eq_some_iff.mp H
                                        obtain ⟨⟨t409, t410⟩, A1000, H⟩ := H
                                        replace H : ((impl_SeqFor.f k6 t409 t410).bind fun bt413 => ((spec_SeqFor.f k6 t409 t410).bind fun bt415 => (if (bt413.2 == bt415.2) = true then (some (bt413.1 == bt415.1)) else (none)))) = some r := H
                                        have A100 := Aside0.mk A1000
                                        clear A1000
                                        replace H := Option.bind_eq_some_iff.mp H
                                        obtain ⟨⟨t413, t414⟩, A1010, H⟩ := H
                                        replace H : ((spec_SeqFor.f k6 t409 t410).bind fun bt415 => (if (t414 == bt415.2) = true then (some (t413 == bt415.1)) else (none))) = some r := H
                                        have A101 := Aside0.mk A1010
                                        clear A1010
                                        replace H := Option.bind_eq_some_iff.mp H
                                        obtain ⟨⟨t415, t416⟩, A1020, H⟩ := H
                                        replace H : (if (t414 == t416) = true then (some (t413 == t415)) else (none)) = some r := H
                                        have A102 := Aside0.mk A1020
                                        clear A1020
                                        by_cases c103 : (t414 == t416) = true
                                        · rw [if_pos c103] at H
                                          have c103b0 : (t414 == t416) = true := c103
                                          (try (have c103b1 : decide (t414 = t416) = true := by simpa using c103))
                                          (try (have c103b2 : (t414 == t416) = true := by simpa using c103))
                                          clear c103
                                          as_aux_lemma =>
                                            obtain rfl := Option.some.inj H
                                            go_wp2_with (first | ((with_reducible refine gate_callee (f := 33) rfl ?_); refine goesL_ (some 253) rfl rfl Try.func33 (by kernel_rfl) rfl #[.slice A1 l1.length c1] rfl (by (try simp only [List.map_toArray, List.map_cons, List.map_nil]); first | done | rfl | (simp only [List.length_drop, List.length_take]; rfl)) ?_; (with_reducible refine (spec_DrawSeqFor.calls k6 _ _ l1 t409 t410 _ ?side1 ?side2 A100.out).mono ?_); (case side1 => repeat (first | exact (Kd.C_below HR1.out HB.out) | (with_reducible refine Kd.C_alloc ?_ _) | (with_reducible refine Kd.C_drewN ?_ _) | (with_reducible refine Kd.C_drew ?_))); (case side2 => exact HC1.out); rintro e w104 ⟨v411, rfl, ho0, hb⟩; refine ⟨_, rfl, ?_⟩; have n0_ := Aside0.mk (Kd.R_elder' (by (with_reducible repeat (first | apply Kd.R_alloc | apply Kd.R_drewN | apply Kd.R_drew)); exact HO_16.out) (Kd.R_base ho0) hb); have n1_ := Aside0.mk (Kd.R_elder' (by (with_reducible repeat (first | apply Kd.R_alloc | apply Kd.R_drewN | apply Kd.R_drew)); exact HO_17.out) (Kd.R_base ho0) hb); have n2_ := Aside0.mk (Kd.R_elder' (by (with_reducible repeat (first | apply Kd.R_alloc | apply Kd.R_drewN | apply Kd.R_drew)); exact HO_200.out) (Kd.R_base ho0) hb); have n3_ := Aside0.mk (Kd.R_lower (Kd.R_new' (Kd.R_new' (Kd.R_new' ho0 (Kd.R_lt (by (with_reducible repeat (first | apply Kd.R_alloc | apply Kd.R_drewN | apply Kd.R_drew)); exact HO_16.out))) (Kd.R_lt (by (with_reducible repeat (first | apply Kd.R_alloc | apply Kd.R_drewN | apply Kd.R_drew)); exact HO_17.out))) (Kd.R_lt (by (with_reducible repeat (first | apply Kd.R_alloc | apply Kd.R_drewN | apply Kd.R_drew)); exact HO_200.out))) (below_size (by repeat (first | (with_reducible first | exact HB.out | apply below_alloc | apply pw_below_drewN | apply below_drew1) | exact HB.out)))); have n4_ := Aside0.mk (below_step (by repeat (first | (with_reducible first | exact HB.out | apply below_alloc | apply pw_below_drewN | apply below_drew1) | exact HB.out)) hb); clear HO_16; clear HO_17; clear HO_200; clear HB; have HO_16 := n0_; have HO_17 := n1_; have HO_200 := n2_; have HO412 := n3_; have HB := n4_; clear n0_ n1_ n2_ n3_ n4_; (try clear hb); (try clear hb2); (try clear hk); (try clear hi); (try clear ho0); obtain ⟨Ao105, co105, eo105⟩ := Kd.R_slice HO412.out; subst eo105) | ((with_reducible refine gate_callee (f := 15) rfl ?_); refine goesL_ (some 259) rfl rfl Try.func15 (by kernel_rfl) rfl #[.slice Ao105 t409.length co105, .int .i64 t410] rfl (by (try simp only [List.map_toArray, List.map_cons, List.map_nil]); first | done | rfl | (simp only [List.length_drop, List.length_take]; rfl)) ?_; (with_reducible refine (impl_SeqFor.calls k6 _ _ t409 t410 t413 t414 _ ?side1 ?side2 A101.out).mono ?_); (case side1 => repeat (first | exact (Kd.R_reads' HO412.out).2.2 | (with_reducible refine Kd.C_alloc ?_ _) | (with_reducible refine Kd.C_drewN ?_ _) | (with_reducible refine Kd.C_drew ?_))); (case side2 => exact (Kd.R_reads' HO412.out).2.1); rintro e w106 ⟨rfl, hb⟩; refine ⟨_, rfl, ?_⟩; have n0_ := Aside0.mk (Kd.R_below (by (with_reducible repeat (first | apply Kd.R_alloc | apply Kd.R_drewN | apply Kd.R_drew)); exact HO_16.out) hb); have n1_ := Aside0.mk (Kd.R_below (by (with_reducible repeat (first | apply Kd.R_alloc | apply Kd.R_drewN | apply Kd.R_drew)); exact HO_17.out) hb); have n2_ := Aside0.mk (Kd.R_below (by (with_reducible repeat (first | apply Kd.R_alloc | apply Kd.R_drewN | apply Kd.R_drew)); exact HO_200.out) hb); have n3_ := Aside0.mk (Kd.R_below (by (with_reducible repeat (first | apply Kd.R_alloc | apply Kd.R_drewN | apply Kd.R_drew)); exact HO412.out) hb); have n4_ := Aside0.mk (below_step (by repeat (first | (with_reducible first | exact HB.out | apply below_alloc | apply pw_below_drewN | apply below_drew1) | exact HB.out)) hb); clear HO_16; clear HO_17; clear HO_200; clear HO412; clear HB; have HO_16 := n0_; have HO_17 := n1_; have HO_200 := n2_; have HO412 := n3_; have HB := n4_; clear n0_ n1_ n2_ n3_ n4_; (try clear hb); (try clear hb2); (try clear hk); (try clear hi)) | ((with_reducible refine gate_callee (f := 14) rfl ?_); refine goesL_ (some 265) rfl rfl Try.func14 (by kernel_rfl) rfl #[.slice Ao105 t409.length co105, .int .i64 t410] rfl (by (try simp only [List.map_toArray, List.map_cons, List.map_nil]); first | done | rfl | (simp only [List.length_drop, List.length_take]; rfl)) ?_; (with_reducible refine (spec_SeqFor.calls k6 _ _ t409 t410 t415 t416 _ ?side1 ?side2 A102.out).mono ?_); (case side1 => repeat (first | exact (Kd.R_reads' HO412.out).2.2 | (with_reducible refine Kd.C_alloc ?_ _) | (with_reducible refine Kd.C_drewN ?_ _) | (with_reducible refine Kd.C_drew ?_))); (case side2 => exact (Kd.R_reads' HO412.out).2.1); rintro e w107 ⟨rfl, hb⟩; refine ⟨_, rfl, ?_⟩; have n0_ := Aside0.mk (Kd.R_below (by (with_reducible repeat (first | apply Kd.R_alloc | apply Kd.R_drewN | apply Kd.R_drew)); exact HO_16.out) hb); have n1_ := Aside0.mk (Kd.R_below (by (with_reducible repeat (first | apply Kd.R_alloc | apply Kd.R_drewN | apply Kd.R_drew)); exact HO_17.out) hb); have n2_ := Aside0.mk (Kd.R_below (by (with_reducible repeat (first | apply Kd.R_alloc | apply Kd.R_drewN | apply Kd.R_drew)); exact HO_200.out) hb); have n3_ := Aside0.mk (Kd.R_below (by (with_reducible repeat (first | apply Kd.R_alloc | apply Kd.R_drewN | apply Kd.R_drew)); exact HO412.out) hb); have n4_ := Aside0.mk (below_step (by repeat (first | (with_reducible first | exact HB.out | apply below_alloc | apply pw_below_drewN | apply below_drew1) | exact HB.out)) hb); clear HO_16; clear HO_17; clear HO_200; clear HO412; clear HB; have HO_16 := n0_; have HO_17 := n1_; have HO_200 := n2_; have HO412 := n3_; have HB := n4_; clear n0_ n1_ n2_ n3_ n4_; (try clear hb); (try clear hb2); (try clear hk); (try clear hi)))
                                            go_ret
                                            exact ⟨by first | rfl | (simp [errW_none, errW_some] <;> rfl) | (simp [*, errW_none, errW_some] <;> rfl), by repeat (first | (with_reducible first | exact HB.out | apply below_alloc | apply pw_below_drewN | apply below_drew1) | exact HB.out)⟩
                                        · rw [if_neg c103] at H
                                          exact absurd H (by simp)
                          · replace c65 := Bool.eq_false_iff.mpr c65
                            subst c65
                            have H1 : ((spec_DrawSeqFor.f kj48 l1).bind fun bt423 => ((impl_SeqFor.f kj48 bt423.1 bt423.2).bind fun bt427 => ((spec_SeqFor.f kj48 bt423.1 bt423.2).bind fun bt429 => (if (bt427.2 == bt429.2) = true then (some (bt427.1 == bt429.1)) else (none))))) = some r := by rw [if_neg (show ¬ (false = true) by decide)] at H; exact H
                            clear H
                            have H := H1
                            clear H1
                            replace H := Option.bind_eq_some_iff.mp H
                            obtain ⟨⟨t423, t424⟩, A1080, H⟩ := H
                            replace H : ((impl_SeqFor.f kj48 t423 t424).bind fun bt427 => ((spec_SeqFor.f kj48 t423 t424).bind fun bt429 => (if (bt427.2 == bt429.2) = true then (some (bt427.1 == bt429.1)) else (none)))) = some r := H
                            have A108 := Aside0.mk A1080
                            clear A1080
                            replace H := Option.bind_eq_some_iff.mp H
                            obtain ⟨⟨t427, t428⟩, A1090, H⟩ := H
                            replace H : ((spec_SeqFor.f kj48 t423 t424).bind fun bt429 => (if (t428 == bt429.2) = true then (some (t427 == bt429.1)) else (none))) = some r := H
                            have A109 := Aside0.mk A1090
                            clear A1090
                            replace H := Option.bind_eq_some_iff.mp H
                            obtain ⟨⟨t429, t430⟩, A1100, H⟩ := H
                            replace H : (if (t428 == t430) = true then (some (t427 == t429)) else (none)) = some r := H
                            have A110 := Aside0.mk A1100
                            clear A1100
                            by_cases c111 : (t428 == t430) = true
                            · rw [if_pos c111] at H
                              have c111b0 : (t428 == t430) = true := c111
                              (try (have c111b1 : decide (t428 = t430) = true := by simpa using c111))
                              (try (have c111b2 : (t428 == t430) = true := by simpa using c111))
                              clear c111
                              as_aux_lemma =>
                                obtain rfl := Option.some.inj H
                                go_wp2_with (first | ((with_reducible refine gate_callee (f := 33) rfl ?_); refine goesL_ (some 253) rfl rfl Try.func33 (by kernel_rfl) rfl #[.slice A1 l1.length c1] rfl (by (try simp only [List.map_toArray, List.map_cons, List.map_nil]); first | done | rfl | (simp only [List.length_drop, List.length_take]; rfl)) ?_; (with_reducible refine (spec_DrawSeqFor.calls kj48 _ _ l1 t423 t424 _ ?side1 ?side2 A108.out).mono ?_); (case side1 => repeat (first | exact (Kd.C_below HR1.out HB.out) | (with_reducible refine Kd.C_alloc ?_ _) | (with_reducible refine Kd.C_drewN ?_ _) | (with_reducible refine Kd.C_drew ?_))); (case side2 => exact HC1.out); rintro e w112 ⟨v425, rfl, ho0, hb⟩; refine ⟨_, rfl, ?_⟩; have n0_ := Aside0.mk (Kd.R_elder' (by (with_reducible repeat (first | apply Kd.R_alloc | apply Kd.R_drewN | apply Kd.R_drew)); exact HO_16.out) (Kd.R_base ho0) hb); have n1_ := Aside0.mk (Kd.R_elder' (by (with_reducible repeat (first | apply Kd.R_alloc | apply Kd.R_drewN | apply Kd.R_drew)); exact HO_17.out) (Kd.R_base ho0) hb); have n2_ := Aside0.mk (Kd.R_elder' (by (with_reducible repeat (first | apply Kd.R_alloc | apply Kd.R_drewN | apply Kd.R_drew)); exact HO_18.out) (Kd.R_base ho0) hb); have n3_ := Aside0.mk (Kd.R_lower (Kd.R_new' (Kd.R_new' (Kd.R_new' ho0 (Kd.R_lt (by (with_reducible repeat (first | apply Kd.R_alloc | apply Kd.R_drewN | apply Kd.R_drew)); exact HO_16.out))) (Kd.R_lt (by (with_reducible repeat (first | apply Kd.R_alloc | apply Kd.R_drewN | apply Kd.R_drew)); exact HO_17.out))) (Kd.R_lt (by (with_reducible repeat (first | apply Kd.R_alloc | apply Kd.R_drewN | apply Kd.R_drew)); exact HO_18.out))) (below_size (by repeat (first | (with_reducible first | exact HB.out | apply below_alloc | apply pw_below_drewN | apply below_drew1) | exact HB.out)))); have n4_ := Aside0.mk (below_step (by repeat (first | (with_reducible first | exact HB.out | apply below_alloc | apply pw_below_drewN | apply below_drew1) | exact HB.out)) hb); clear HO_16; clear HO_17; clear HO_18; clear HB; have HO_16 := n0_; have HO_17 := n1_; have HO_18 := n2_; have HO426 := n3_; have HB := n4_; clear n0_ n1_ n2_ n3_ n4_; (try clear hb); (try clear hb2); (try clear hk); (try clear hi); (try clear ho0); obtain ⟨Ao113, co113, eo113⟩ := Kd.R_slice HO426.out; subst eo113) | ((with_reducible refine gate_callee (f := 15) rfl ?_); refine goesL_ (some 259) rfl rfl Try.func15 (by kernel_rfl) rfl #[.slice Ao113 t423.length co113, .int .i64 t424] rfl (by (try simp only [List.map_toArray, List.map_cons, List.map_nil]); first | done | rfl | (simp only [List.length_drop, List.length_take]; rfl)) ?_; (with_reducible refine (impl_SeqFor.calls kj48 _ _ t423 t424 t427 t428 _ ?side1 ?side2 A109.out).mono ?_); (case side1 => repeat (first | exact (Kd.R_reads' HO426.out).2.2 | (with_reducible refine Kd.C_alloc ?_ _) | (with_reducible refine Kd.C_drewN ?_ _) | (with_reducible refine Kd.C_drew ?_))); (case side2 => exact (Kd.R_reads' HO426.out).2.1); rintro e w114 ⟨rfl, hb⟩; refine ⟨_, rfl, ?_⟩; have n0_ := Aside0.mk (Kd.R_below (by (with_reducible repeat (first | apply Kd.R_alloc | apply Kd.R_drewN | apply Kd.R_drew)); exact HO_16.out) hb); have n1_ := Aside0.mk (Kd.R_below (by (with_reducible repeat (first | apply Kd.R_alloc | apply Kd.R_drewN | apply Kd.R_drew)); exact HO_17.out) hb); have n2_ := Aside0.mk (Kd.R_below (by (with_reducible repeat (first | apply Kd.R_alloc | apply Kd.R_drewN | apply Kd.R_drew)); exact HO_18.out) hb); have n3_ := Aside0.mk (Kd.R_below (by (with_reducible repeat (first | apply Kd.R_alloc | apply Kd.R_drewN | apply Kd.R_drew)); exact HO426.out) hb); have n4_ := Aside0.mk (below_step (by repeat (first | (with_reducible first | exact HB.out | apply below_alloc | apply pw_below_drewN | apply below_drew1) | exact HB.out)) hb); clear HO_16; clear HO_17; clear HO_18; clear HO426; clear HB; have HO_16 := n0_; have HO_17 := n1_; have HO_18 := n2_; have HO426 := n3_; have HB := n4_; clear n0_ n1_ n2_ n3_ n4_; (try clear hb); (try clear hb2); (try clear hk); (try clear hi)) | ((with_reducible refine gate_callee (f := 14) rfl ?_); refine goesL_ (some 265) rfl rfl Try.func14 (by kernel_rfl) rfl #[.slice Ao113 t423.length co113, .int .i64 t424] rfl (by (try simp only [List.map_toArray, List.map_cons, List.map_nil]); first | done | rfl | (simp only [List.length_drop, List.length_take]; rfl)) ?_; (with_reducible refine (spec_SeqFor.calls kj48 _ _ t423 t424 t429 t430 _ ?side1 ?side2 A110.out).mono ?_); (case side1 => repeat (first | exact (Kd.R_reads' HO426.out).2.2 | (with_reducible refine Kd.C_alloc ?_ _) | (with_reducible refine Kd.C_drewN ?_ _) | (with_reducible refine Kd.C_drew ?_))); (case side2 => exact (Kd.R_reads' HO426.out).2.1); rintro e w115 ⟨rfl, hb⟩; refine ⟨_, rfl, ?_⟩; have n0_ := Aside0.mk (Kd.R_below (by (with_reducible repeat (first | apply Kd.R_alloc | apply Kd.R_drewN | apply Kd.R_drew)); exact HO_16.out) hb); have n1_ := Aside0.mk (Kd.R_below (by (with_reducible repeat (first | apply Kd.R_alloc | apply Kd.R_drewN | apply Kd.R_drew)); exact HO_17.out) hb); have n2_ := Aside0.mk (Kd.R_below (by (with_reducible repeat (first | apply Kd.R_alloc | apply Kd.R_drewN | apply Kd.R_drew)); exact HO_18.out) hb); have n3_ := Aside0.mk (Kd.R_below (by (with_reducible repeat (first | apply Kd.R_alloc | apply Kd.R_drewN | apply Kd.R_drew)); exact HO426.out) hb); have n4_ := Aside0.mk (below_step (by repeat (first | (with_reducible first | exact HB.out | apply below_alloc | apply pw_below_drewN | apply below_drew1) | exact HB.out)) hb); clear HO_16; clear HO_17; clear HO_18; clear HO426; clear HB; have HO_16 := n0_; have HO_17 := n1_; have HO_18 := n2_; have HO426 := n3_; have HB := n4_; clear n0_ n1_ n2_ n3_ n4_; (try clear hb); (try clear hb2); (try clear hk); (try clear hi)))
                                go_ret
                                exact ⟨by first | rfl | (simp [errW_none, errW_some] <;> rfl) | (simp [*, errW_none, errW_some] <;> rfl), by repeat (first | (with_reducible first | exact HB.out | apply below_alloc | apply pw_below_drewN | apply below_drew1) | exact HB.out)⟩
                            · rw [if_neg c111] at H
                              exact absurd H (by simp)

/-- THE ONE PURE STATEMENT of laws_FnHaves: yours. -/
def laws_FnHaves.Pure : Prop := ∀ (l0 : List Int) (l1 : List Int), l0.length ≤ maxLen → l0.length * 1 ≤ 140737488351232 → (∀ x ∈ l0, (Lit.int .u8 x).wf = true) → l1.length ≤ maxLen → l1.length * 1 ≤ 140737488351232 → (∀ x ∈ l1, (Lit.int .u8 x).wf = true) → ∃ k, laws_FnHaves.f k l0 l1 = some true
theorem laws_FnHaves.walk (P : laws_FnHaves.Pure) (a0 : Option Addr) (len0 cap0 : Nat) (z0 : List Int) (a1 : Option Addr) (len1 cap1 : Nat) (z1 : List Int) (w : World) (w0 : (a0 = none ∧ len0 = 0 ∧ cap0 = 0 ∧ z0 = []) ∨ ∃ x, a0 = some x ∧ len0 ≤ cap0 ∧ cap0 ≤ maxLen ∧ z0.length = cap0 ∧ (∀ i, i < z0.length → w.cell? (x.add i) = some (.int .u8 (z0.getD i 0))) ∧ ∀ n ∈ z0, (Lit.int .u8 n).wf = true) (y0 : len0 * 1 ≤ 140737488351232) (w1 : (a1 = none ∧ len1 = 0 ∧ cap1 = 0 ∧ z1 = []) ∨ ∃ x, a1 = some x ∧ len1 ≤ cap1 ∧ cap1 ≤ maxLen ∧ z1.length = cap1 ∧ (∀ i, i < z1.length → w.cell? (x.add i) = some (.int .u8 (z1.getD i 0))) ∧ ∀ n ∈ z1, (Lit.int .u8 n).wf = true) (y1 : len1 * 1 ≤ 140737488351232) :
    Calls Try.prog 8 #[.slice a0 len0 cap0, .slice a1 len1 cap1] w fun e w' => e = .returned (.bool true) ∧ Below w.heap.size w w' := by
  obtain ⟨l0, rfl, hr0, hm0, hw0, hc0⟩ := ReadsInt.ofRowC w0
  obtain ⟨l1, rfl, hr1, hm1, hw1, hc1⟩ := ReadsInt.ofRowC w1
  obtain ⟨k, h⟩ := P l0 l1 hm0 y0 hw0 hm1 y1 hw1
  refine (laws_FnHaves.calls k _ _ l0 _ _ l1 true w (Kd.C_of_reads (d := (0 : Int)) (h1 := fun _ => rfl) hr0) hc0 (Kd.C_of_reads (d := (0 : Int)) (h1 := fun _ => rfl) hr1) hc1 h).mono ?_
  rintro e w' ⟨rfl, hd⟩
  exact ⟨rfl, hd⟩

end Go.Proofs.Ytpcimkpklmemnaa.PFnHaves
