-- Written by a program of this project (myprint.py, by way of the kit's printer). Not trusted: Lean checks it.
import Derived.Test.YtmagnbbpbhmacaaPFnSumsx0
import Derived.Test.YtmagnbbpbhmacaaPFnSumsx1
import Derived.Test.YtmagnbbpbhmacaaPFnSumsx2
import Derived.Test.YtmagnbbpbhmacaaPFnSumsx3
namespace Go.Proofs.Ytmagnbbpbhmacaa.PFnSums
open Go.RowKit Go.Proofs.YtmagnbbpbhmacaaW.PrintWords Go.Proofs.YtmagnbbpbhmacaaW.PrintLast Go.Proofs.YtmagnbbpbhmacaaW.PrintMore
attribute [local go_sem] max2_int min2_int max_two min_two max_three min_three max_four min_four   -- for this text's walks alone
set_option linter.unusedVariables false
set_option linter.unusedSimpArgs false

theorem bytes_event {P : Program} {ops : Array Oper} {rest : List Oper} {o : Oper} {a : Act} {Q : Exit → Act → World → Prop} {W : World} (hgd : o.guard = none) {N : Tmp} (_hd : o.dst = some N) {e : TypeId} {s : ByteArray} {c : Nat}
    (hrun : (execOp a.eval o).run P W = .ok (.value (.slice (some ⟨W.heap.size, 0, none⟩) s.size c)) (Lib.bytesWorld W e s))
    (h : ∀ g w1, Below W.heap.size W w1 → wpList P ops Q rest (a.put o.dst (.slice (some ⟨g, 0, none⟩) s.size c)) w1) : wpList P ops Q (o :: rest) a W :=
  Kd.event_run hgd hrun (h _ _ (bytes_below (Below.refl _ _) (Nat.le_refl _) e s))

/-! ### laws_FnSums: function 12 -/
mutual
def laws_FnSums.j0 : Nat → List Int → ByteArray → Int → Int → Bool → Bool → Option (Bool)
  | 0, _, _, _, _, _, _ => none
  | k + 1, x1, x5, x6, x7, x8, x87 => if x87 = true then (none) else (if x8 = true then ((laws_numberOf.f k x1).bind fun t209 => (if (wrap64 ((x5.size : Int) + 1)) = 0 then (none) else (if 0 ≤ (Int.tmod t209 (wrap64 ((x5.size : Int) + 1))) then (if (Int.tmod t209 (wrap64 ((x5.size : Int) + 1))) ≤ (x5.size : Int) then ((impl_SumOf.f k (x5.extract 0 ((Int.tmod t209 (wrap64 ((x5.size : Int) + 1))) : Int).toNat)).bind fun bt210 => ((impl_SumOf.f k (x5.extract ((Int.tmod t209 (wrap64 ((x5.size : Int) + 1))) : Int).toNat x5.size)).bind fun bt213 => ((impl_AddSums.f bt210.1 bt210.2.1 bt213.1 bt213.2.1 (wrap64 ((x5.size : Int) - (Int.tmod t209 (wrap64 ((x5.size : Int) + 1)))))).bind fun bt216 => (if bt210.2.2 = true then (if bt213.2.2 = true then (if bt216.2.2 = true then (if bt216.1 = x6 then (laws_FnSums.j1 k x1 x5 x7 (bt216.2.1 != x7)) else (none)) else (none)) else (none)) else (none))))) else (none)) else (none)))) else (laws_FnSums.j3 k x1))
def laws_FnSums.j3 : Nat → List Int → Option (Bool)
  | 0, _ => none
  | k + 1, x1 => (spec_DrawSwapTwo.f k x1).bind fun bt221 => ((impl_SwapTwo.f bt221.1 bt221.2).bind fun bt223 => ((spec_SwapTwo.f k bt221.1 bt221.2).bind fun bt225 => (if (bt223.2 != bt225.2) = true then (none) else (laws_FnSums.j4 k x1 bt221.1 bt221.2 bt223.1 bt223.2 (bt223.1.toList != bt225.1.toList)))))
def laws_FnSums.j4 : Nat → List Int → ByteArray → Int → ByteArray → Bool → Bool → Option (Bool)
  | 0, _, _, _, _, _, _ => none
  | k + 1, x1, x26, x27, x28, x29, x195 => if x195 = true then (none) else (if x29 = true then ((impl_SumOf.f k x26).bind fun bt227 => ((impl_SumOf.f k x28).bind fun bt230 => (if bt227.2.2 = true then (if bt230.2.2 = true then (if bt227.1 = bt230.1 then (if 0 ≤ x27 then (if x27 < (x26.size : Int) then (if 0 ≤ (wrap64 (x27 + 1)) then (if (wrap64 (x27 + 1)) < (x26.size : Int) then (laws_FnSums.j5 k x1 ((bt227.2.1 == bt230.2.1) != ((Int.tmod (wrap64 (bt x26 x27)) 255) == (Int.tmod (wrap64 (bt x26 (wrap64 (x27 + 1)))) 255)))) else (none)) else (none)) else (none)) else (none)) else (none)) else (none)) else (none)))) else (laws_FnSums.j6 k x1))
def laws_FnSums.j6 : Nat → List Int → Option (Bool)
  | 0, _ => none
  | k + 1, x1 => (spec_DrawAddSums.f x1).bind fun bt233 => ((impl_AddSums.f bt233.1 bt233.2.1 bt233.2.2.1 bt233.2.2.2.1 bt233.2.2.2.2).bind fun bt238 => ((spec_AddSums.f k bt233.1 bt233.2.1 bt233.2.2.1 bt233.2.2.2.1 bt233.2.2.2.2).bind fun bt241 => ((spec_DrawWeightAt.f k x1).bind fun bt244 => ((impl_WeightAt.f bt244.1 bt244.2).bind fun bt246 => ((spec_WeightAt.f bt244.1 bt244.2).bind fun bt248 => (if (bt238.2.2 == bt241.2.2) = true then (if bt238.1 = bt241.1 then (if bt238.2.1 = bt241.2.1 then (if (bt246.2 == bt248.2) = true then (some (bt246.1 == bt248.1)) else (none)) else (none)) else (none)) else (none)))))))
def laws_FnSums.j5 : Nat → List Int → Bool → Option (Bool)
  | 0, _, _ => none
  | k + 1, x1, x237 => if x237 = true then (none) else (laws_FnSums.j6 k x1)
def laws_FnSums.j1 : Nat → List Int → ByteArray → Int → Bool → Option (Bool)
  | 0, _, _, _, _ => none
  | k + 1, x1, x5, x7, x143 => if x143 = true then (none) else (laws_FnSums.l0 k x1 x5 x7 0 (x5.size : Int) 0)
def laws_FnSums.l0 : Nat → List Int → ByteArray → Int → Int → Int → Int → Option (Bool)
  | 0, _, _, _, _, _, _ => none
  | k + 1, x1, x5, x7, x22, x146, x147 => if x147 < x146 then ((impl_WeightAt.f x5 x147).bind fun bt219 => (if bt219.2 = true then (if 0 ≤ x147 then (if x147 < (x5.size : Int) then (laws_FnSums.l0 k x1 x5 x7 (Int.tmod (wrap64 (x22 + (wrap64 (bt219.1 * (wrap64 (bt x5 x147)))))) 255) x146 (wrap64 (x147 + 1))) else (none)) else (none)) else (none))) else (if x22 = x7 then (laws_FnSums.j3 k x1) else (none))
end
def laws_FnSums.f (k : Nat) (l0 : List Int) (l1 : List Int) : Option (Bool) := if (wrap64 ((l0.length : Int) + (l1.length : Int))) > 1048576 then (some true) else ((spec_DrawSumOf.f k l0).bind fun t202 => ((impl_SumOf.f k t202).bind fun bt203 => ((spec_SumOf.f k t202).bind fun bt206 => (if (bt203.2.2 != bt206.2.2) = true then (none) else (if bt203.1 = bt206.1 then (laws_FnSums.j0 k l1 t202 bt203.1 bt203.2.1 bt203.2.2 (bt203.2.1 != bt206.2.1)) else (none))))))
theorem laws_FnSums.mono_l : ∀ k, (∀ y0 y1 y2 y3 y4 y5, LeO (laws_FnSums.j0 k y0 y1 y2 y3 y4 y5) (laws_FnSums.j0 (k + 1) y0 y1 y2 y3 y4 y5)) ∧ (∀ y0, LeO (laws_FnSums.j3 k y0) (laws_FnSums.j3 (k + 1) y0)) ∧ (∀ y0 y1 y2 y3 y4 y5, LeO (laws_FnSums.j4 k y0 y1 y2 y3 y4 y5) (laws_FnSums.j4 (k + 1) y0 y1 y2 y3 y4 y5)) ∧ (∀ y0, LeO (laws_FnSums.j6 k y0) (laws_FnSums.j6 (k + 1) y0)) ∧ (∀ y0 y1, LeO (laws_FnSums.j5 k y0 y1) (laws_FnSums.j5 (k + 1) y0 y1)) ∧ (∀ y0 y1 y2 y3, LeO (laws_FnSums.j1 k y0 y1 y2 y3) (laws_FnSums.j1 (k + 1) y0 y1 y2 y3)) ∧ (∀ y0 y1 y2 y3 y4 y5, LeO (laws_FnSums.l0 k y0 y1 y2 y3 y4 y5) (laws_FnSums.l0 (k + 1) y0 y1 y2 y3 y4 y5))
  | 0 => ⟨fun _ _ _ _ _ _ r h => by simp [laws_FnSums.j0] at h, fun _ r h => by simp [laws_FnSums.j3] at h, fun _ _ _ _ _ _ r h => by simp [laws_FnSums.j4] at h, fun _ r h => by simp [laws_FnSums.j6] at h, fun _ _ r h => by simp [laws_FnSums.j5] at h, fun _ _ _ _ r h => by simp [laws_FnSums.j1] at h, fun _ _ _ _ _ _ r h => by simp [laws_FnSums.l0] at h⟩
  | k + 1 => by
    obtain ⟨ih0, ih1, ih2, ih3, ih4, ih5, ih6⟩ := laws_FnSums.mono_l k
    refine ⟨?_, ?_, ?_, ?_, ?_, ?_, ?_⟩
    · intro y0 y1 y2 y3 y4 y5
      unfold laws_FnSums.j0
      repeat' first
      | (with_reducible exact ih0 _ _ _ _ _ _)
      | (with_reducible exact ih1 _)
      | (with_reducible exact ih2 _ _ _ _ _ _)
      | (with_reducible exact ih3 _)
      | (with_reducible exact ih4 _ _)
      | (with_reducible exact ih5 _ _ _ _)
      | (with_reducible exact ih6 _ _ _ _ _ _)
      | (with_reducible exact impl_SumOf.mono _ _)
      | (with_reducible exact laws_numberOf.mono _ _)
      | (with_reducible exact spec_AddSums.mono _ _ _ _ _ _)
      | (with_reducible exact spec_DrawSumOf.mono _ _)
      | (with_reducible exact spec_DrawSwapTwo.mono _ _)
      | (with_reducible exact spec_DrawWeightAt.mono _ _)
      | (with_reducible exact spec_SumOf.mono _ _)
      | (with_reducible exact spec_SwapTwo.mono _ _ _)
      | (with_reducible exact LeO.refl _)
      | (with_reducible exact LeO.none _)
      | (with_reducible refine LeO.ite ?_ ?_)
      | (with_reducible refine LeO.bind ?_ (fun _ => ?_))
      | exact ih0 _ _ _ _ _ _
      | exact ih1 _
      | exact ih2 _ _ _ _ _ _
      | exact ih3 _
      | exact ih4 _ _
      | exact ih5 _ _ _ _
      | exact ih6 _ _ _ _ _ _
      | exact impl_SumOf.mono _ _
      | exact laws_numberOf.mono _ _
      | exact spec_AddSums.mono _ _ _ _ _ _
      | exact spec_DrawSumOf.mono _ _
      | exact spec_DrawSwapTwo.mono _ _
      | exact spec_DrawWeightAt.mono _ _
      | exact spec_SumOf.mono _ _
      | exact spec_SwapTwo.mono _ _ _
      | exact LeO.none _
      | refine LeO.ite ?_ ?_
      | refine LeO.bind ?_ (fun _ => ?_)
    · intro y0
      unfold laws_FnSums.j3
      repeat' first
      | (with_reducible exact ih0 _ _ _ _ _ _)
      | (with_reducible exact ih1 _)
      | (with_reducible exact ih2 _ _ _ _ _ _)
      | (with_reducible exact ih3 _)
      | (with_reducible exact ih4 _ _)
      | (with_reducible exact ih5 _ _ _ _)
      | (with_reducible exact ih6 _ _ _ _ _ _)
      | (with_reducible exact impl_SumOf.mono _ _)
      | (with_reducible exact laws_numberOf.mono _ _)
      | (with_reducible exact spec_AddSums.mono _ _ _ _ _ _)
      | (with_reducible exact spec_DrawSumOf.mono _ _)
      | (with_reducible exact spec_DrawSwapTwo.mono _ _)
      | (with_reducible exact spec_DrawWeightAt.mono _ _)
      | (with_reducible exact spec_SumOf.mono _ _)
      | (with_reducible exact spec_SwapTwo.mono _ _ _)
      | (with_reducible exact LeO.refl _)
      | (with_reducible exact LeO.none _)
      | (with_reducible refine LeO.ite ?_ ?_)
      | (with_reducible refine LeO.bind ?_ (fun _ => ?_))
      | exact ih0 _ _ _ _ _ _
      | exact ih1 _
      | exact ih2 _ _ _ _ _ _
      | exact ih3 _
      | exact ih4 _ _
      | exact ih5 _ _ _ _
      | exact ih6 _ _ _ _ _ _
      | exact impl_SumOf.mono _ _
      | exact laws_numberOf.mono _ _
      | exact spec_AddSums.mono _ _ _ _ _ _
      | exact spec_DrawSumOf.mono _ _
      | exact spec_DrawSwapTwo.mono _ _
      | exact spec_DrawWeightAt.mono _ _
      | exact spec_SumOf.mono _ _
      | exact spec_SwapTwo.mono _ _ _
      | exact LeO.none _
      | refine LeO.ite ?_ ?_
      | refine LeO.bind ?_ (fun _ => ?_)
    · intro y0 y1 y2 y3 y4 y5
      unfold laws_FnSums.j4
      repeat' first
      | (with_reducible exact ih0 _ _ _ _ _ _)
      | (with_reducible exact ih1 _)
      | (with_reducible exact ih2 _ _ _ _ _ _)
      | (with_reducible exact ih3 _)
      | (with_reducible exact ih4 _ _)
      | (with_reducible exact ih5 _ _ _ _)
      | (with_reducible exact ih6 _ _ _ _ _ _)
      | (with_reducible exact impl_SumOf.mono _ _)
      | (with_reducible exact laws_numberOf.mono _ _)
      | (with_reducible exact spec_AddSums.mono _ _ _ _ _ _)
      | (with_reducible exact spec_DrawSumOf.mono _ _)
      | (with_reducible exact spec_DrawSwapTwo.mono _ _)
      | (with_reducible exact spec_DrawWeightAt.mono _ _)
      | (with_reducible exact spec_SumOf.mono _ _)
      | (with_reducible exact spec_SwapTwo.mono _ _ _)
      | (with_reducible exact LeO.refl _)
      | (with_reducible exact LeO.none _)
      | (with_reducible refine LeO.ite ?_ ?_)
      | (with_reducible refine LeO.bind ?_ (fun _ => ?_))
      | exact ih0 _ _ _ _ _ _
      | exact ih1 _
      | exact ih2 _ _ _ _ _ _
      | exact ih3 _
      | exact ih4 _ _
      | exact ih5 _ _ _ _
      | exact ih6 _ _ _ _ _ _
      | exact impl_SumOf.mono _ _
      | exact laws_numberOf.mono _ _
      | exact spec_AddSums.mono _ _ _ _ _ _
      | exact spec_DrawSumOf.mono _ _
      | exact spec_DrawSwapTwo.mono _ _
      | exact spec_DrawWeightAt.mono _ _
      | exact spec_SumOf.mono _ _
      | exact spec_SwapTwo.mono _ _ _
      | exact LeO.none _
      | refine LeO.ite ?_ ?_
      | refine LeO.bind ?_ (fun _ => ?_)
    · intro y0
      unfold laws_FnSums.j6
      repeat' first
      | (with_reducible exact ih0 _ _ _ _ _ _)
      | (with_reducible exact ih1 _)
      | (with_reducible exact ih2 _ _ _ _ _ _)
      | (with_reducible exact ih3 _)
      | (with_reducible exact ih4 _ _)
      | (with_reducible exact ih5 _ _ _ _)
      | (with_reducible exact ih6 _ _ _ _ _ _)
      | (with_reducible exact impl_SumOf.mono _ _)
      | (with_reducible exact laws_numberOf.mono _ _)
      | (with_reducible exact spec_AddSums.mono _ _ _ _ _ _)
      | (with_reducible exact spec_DrawSumOf.mono _ _)
      | (with_reducible exact spec_DrawSwapTwo.mono _ _)
      | (with_reducible exact spec_DrawWeightAt.mono _ _)
      | (with_reducible exact spec_SumOf.mono _ _)
      | (with_reducible exact spec_SwapTwo.mono _ _ _)
      | (with_reducible exact LeO.refl _)
      | (with_reducible exact LeO.none _)
      | (with_reducible refine LeO.ite ?_ ?_)
      | (with_reducible refine LeO.bind ?_ (fun _ => ?_))
      | exact ih0 _ _ _ _ _ _
      | exact ih1 _
      | exact ih2 _ _ _ _ _ _
      | exact ih3 _
      | exact ih4 _ _
      | exact ih5 _ _ _ _
      | exact ih6 _ _ _ _ _ _
      | exact impl_SumOf.mono _ _
      | exact laws_numberOf.mono _ _
      | exact spec_AddSums.mono _ _ _ _ _ _
      | exact spec_DrawSumOf.mono _ _
      | exact spec_DrawSwapTwo.mono _ _
      | exact spec_DrawWeightAt.mono _ _
      | exact spec_SumOf.mono _ _
      | exact spec_SwapTwo.mono _ _ _
      | exact LeO.none _
      | refine LeO.ite ?_ ?_
      | refine LeO.bind ?_ (fun _ => ?_)
    · intro y0 y1
      unfold laws_FnSums.j5
      repeat' first
      | (with_reducible exact ih0 _ _ _ _ _ _)
      | (with_reducible exact ih1 _)
      | (with_reducible exact ih2 _ _ _ _ _ _)
      | (with_reducible exact ih3 _)
      | (with_reducible exact ih4 _ _)
      | (with_reducible exact ih5 _ _ _ _)
      | (with_reducible exact ih6 _ _ _ _ _ _)
      | (with_reducible exact impl_SumOf.mono _ _)
      | (with_reducible exact laws_numberOf.mono _ _)
      | (with_reducible exact spec_AddSums.mono _ _ _ _ _ _)
      | (with_reducible exact spec_DrawSumOf.mono _ _)
      | (with_reducible exact spec_DrawSwapTwo.mono _ _)
      | (with_reducible exact spec_DrawWeightAt.mono _ _)
      | (with_reducible exact spec_SumOf.mono _ _)
      | (with_reducible exact spec_SwapTwo.mono _ _ _)
      | (with_reducible exact LeO.refl _)
      | (with_reducible exact LeO.none _)
      | (with_reducible refine LeO.ite ?_ ?_)
      | (with_reducible refine LeO.bind ?_ (fun _ => ?_))
      | exact ih0 _ _ _ _ _ _
      | exact ih1 _
      | exact ih2 _ _ _ _ _ _
      | exact ih3 _
      | exact ih4 _ _
      | exact ih5 _ _ _ _
      | exact ih6 _ _ _ _ _ _
      | exact impl_SumOf.mono _ _
      | exact laws_numberOf.mono _ _
      | exact spec_AddSums.mono _ _ _ _ _ _
      | exact spec_DrawSumOf.mono _ _
      | exact spec_DrawSwapTwo.mono _ _
      | exact spec_DrawWeightAt.mono _ _
      | exact spec_SumOf.mono _ _
      | exact spec_SwapTwo.mono _ _ _
      | exact LeO.none _
      | refine LeO.ite ?_ ?_
      | refine LeO.bind ?_ (fun _ => ?_)
    · intro y0 y1 y2 y3
      unfold laws_FnSums.j1
      repeat' first
      | (with_reducible exact ih0 _ _ _ _ _ _)
      | (with_reducible exact ih1 _)
      | (with_reducible exact ih2 _ _ _ _ _ _)
      | (with_reducible exact ih3 _)
      | (with_reducible exact ih4 _ _)
      | (with_reducible exact ih5 _ _ _ _)
      | (with_reducible exact ih6 _ _ _ _ _ _)
      | (with_reducible exact impl_SumOf.mono _ _)
      | (with_reducible exact laws_numberOf.mono _ _)
      | (with_reducible exact spec_AddSums.mono _ _ _ _ _ _)
      | (with_reducible exact spec_DrawSumOf.mono _ _)
      | (with_reducible exact spec_DrawSwapTwo.mono _ _)
      | (with_reducible exact spec_DrawWeightAt.mono _ _)
      | (with_reducible exact spec_SumOf.mono _ _)
      | (with_reducible exact spec_SwapTwo.mono _ _ _)
      | (with_reducible exact LeO.refl _)
      | (with_reducible exact LeO.none _)
      | (with_reducible refine LeO.ite ?_ ?_)
      | (with_reducible refine LeO.bind ?_ (fun _ => ?_))
      | exact ih0 _ _ _ _ _ _
      | exact ih1 _
      | exact ih2 _ _ _ _ _ _
      | exact ih3 _
      | exact ih4 _ _
      | exact ih5 _ _ _ _
      | exact ih6 _ _ _ _ _ _
      | exact impl_SumOf.mono _ _
      | exact laws_numberOf.mono _ _
      | exact spec_AddSums.mono _ _ _ _ _ _
      | exact spec_DrawSumOf.mono _ _
      | exact spec_DrawSwapTwo.mono _ _
      | exact spec_DrawWeightAt.mono _ _
      | exact spec_SumOf.mono _ _
      | exact spec_SwapTwo.mono _ _ _
      | exact LeO.none _
      | refine LeO.ite ?_ ?_
      | refine LeO.bind ?_ (fun _ => ?_)
    · intro y0 y1 y2 y3 y4 y5
      unfold laws_FnSums.l0
      repeat' first
      | (with_reducible exact ih0 _ _ _ _ _ _)
      | (with_reducible exact ih1 _)
      | (with_reducible exact ih2 _ _ _ _ _ _)
      | (with_reducible exact ih3 _)
      | (with_reducible exact ih4 _ _)
      | (with_reducible exact ih5 _ _ _ _)
      | (with_reducible exact ih6 _ _ _ _ _ _)
      | (with_reducible exact impl_SumOf.mono _ _)
      | (with_reducible exact laws_numberOf.mono _ _)
      | (with_reducible exact spec_AddSums.mono _ _ _ _ _ _)
      | (with_reducible exact spec_DrawSumOf.mono _ _)
      | (with_reducible exact spec_DrawSwapTwo.mono _ _)
      | (with_reducible exact spec_DrawWeightAt.mono _ _)
      | (with_reducible exact spec_SumOf.mono _ _)
      | (with_reducible exact spec_SwapTwo.mono _ _ _)
      | (with_reducible exact LeO.refl _)
      | (with_reducible exact LeO.none _)
      | (with_reducible refine LeO.ite ?_ ?_)
      | (with_reducible refine LeO.bind ?_ (fun _ => ?_))
      | exact ih0 _ _ _ _ _ _
      | exact ih1 _
      | exact ih2 _ _ _ _ _ _
      | exact ih3 _
      | exact ih4 _ _
      | exact ih5 _ _ _ _
      | exact ih6 _ _ _ _ _ _
      | exact impl_SumOf.mono _ _
      | exact laws_numberOf.mono _ _
      | exact spec_AddSums.mono _ _ _ _ _ _
      | exact spec_DrawSumOf.mono _ _
      | exact spec_DrawSwapTwo.mono _ _
      | exact spec_DrawWeightAt.mono _ _
      | exact spec_SumOf.mono _ _
      | exact spec_SwapTwo.mono _ _ _
      | exact LeO.none _
      | refine LeO.ite ?_ ?_
      | refine LeO.bind ?_ (fun _ => ?_)
theorem laws_FnSums.mono : ∀ a0 a1 k, LeO (laws_FnSums.f k a0 a1) (laws_FnSums.f (k + 1) a0 a1) := by
  intro a0 a1 k
  obtain ⟨ih0, ih1, ih2, ih3, ih4, ih5, ih6⟩ := laws_FnSums.mono_l k
  unfold laws_FnSums.f
  repeat' first
      | (with_reducible exact ih0 _ _ _ _ _ _)
      | (with_reducible exact ih1 _)
      | (with_reducible exact ih2 _ _ _ _ _ _)
      | (with_reducible exact ih3 _)
      | (with_reducible exact ih4 _ _)
      | (with_reducible exact ih5 _ _ _ _)
      | (with_reducible exact ih6 _ _ _ _ _ _)
      | (with_reducible exact impl_SumOf.mono _ _)
      | (with_reducible exact laws_numberOf.mono _ _)
      | (with_reducible exact spec_AddSums.mono _ _ _ _ _ _)
      | (with_reducible exact spec_DrawSumOf.mono _ _)
      | (with_reducible exact spec_DrawSwapTwo.mono _ _)
      | (with_reducible exact spec_DrawWeightAt.mono _ _)
      | (with_reducible exact spec_SumOf.mono _ _)
      | (with_reducible exact spec_SwapTwo.mono _ _ _)
      | (with_reducible exact LeO.refl _)
      | (with_reducible exact LeO.none _)
      | (with_reducible refine LeO.ite ?_ ?_)
      | (with_reducible refine LeO.bind ?_ (fun _ => ?_))
      | exact ih0 _ _ _ _ _ _
      | exact ih1 _
      | exact ih2 _ _ _ _ _ _
      | exact ih3 _
      | exact ih4 _ _
      | exact ih5 _ _ _ _
      | exact ih6 _ _ _ _ _ _
      | exact impl_SumOf.mono _ _
      | exact laws_numberOf.mono _ _
      | exact spec_AddSums.mono _ _ _ _ _ _
      | exact spec_DrawSumOf.mono _ _
      | exact spec_DrawSwapTwo.mono _ _
      | exact spec_DrawWeightAt.mono _ _
      | exact spec_SumOf.mono _ _
      | exact spec_SwapTwo.mono _ _ _
      | exact LeO.none _
      | refine LeO.ite ?_ ?_
      | refine LeO.bind ?_ (fun _ => ?_)
set_option maxHeartbeats 8000000 in
set_option maxRecDepth 100000 in
theorem laws_FnSums.calls (k : Nat) (A0 : Option Addr) (c0 : Nat) (l0 : List Int) (A1 : Option Addr) (c1 : Nat) (l1 : List Int) (r : Bool) (w : World) (hr0 : Kd.C (Kd.int .u8) w A0 l0.length l0) (hc0 : l0.length ≤ c0) (hr1 : Kd.C (Kd.int .u8) w A1 l1.length l1) (hc1 : l1.length ≤ c1) (h : laws_FnSums.f k l0 l1 = some r) :
    Calls Try.prog 12 #[.slice A0 l0.length c0, .slice A1 l1.length c1] w fun e w' => e = .returned (.bool r) ∧ Below w.heap.size w w' := by
  have HR0 := Aside0.mk hr0
  have HC0 := Aside0.mk hc0
  clear hr0 hc0
  have HR1 := Aside0.mk hr1
  have HC1 := Aside0.mk hc1
  clear hr1 hc1
  have HB := Aside0.mk (Below.refl w.heap.size w)
  have H : (if (wrap64 ((l0.length : Int) + (l1.length : Int))) > 1048576 then (some true) else ((spec_DrawSumOf.f k l0).bind fun t202 => ((impl_SumOf.f k t202).bind fun bt203 => ((spec_SumOf.f k t202).bind fun bt206 => (if (bt203.2.2 != bt206.2.2) = true then (none) else (if bt203.1 = bt206.1 then (laws_FnSums.j0 k l1 t202 bt203.1 bt203.2.1 bt203.2.2 (bt203.2.1 != bt206.2.1)) else (none))))))) = some r := h
  clear h
  by_cases c3 : (wrap64 ((l0.length : Int) + (l1.length : Int))) > 1048576
  · rw [if_pos c3] at H
    have c3b0 : decide (1048576 < (wrap64 ((l0.length : Int) + (l1.length : Int)))) = true := decide_eq_true c3
    clear c3
    as_aux_lemma =>
      obtain rfl := Option.some.inj H
      go_enter Try.func12, Try.ntmps12
      go_wp2
      repeat (go_quiet (fail); try go_wp2)
      go_ret
      exact ⟨by first | rfl | (simp [errW_none, errW_some] <;> rfl) | (simp [*, errW_none, errW_some] <;> rfl), by repeat (first | (with_reducible first | exact HB.out | apply below_alloc | apply pw_below_drewN | apply below_drew1) | exact HB.out)⟩
  · rw [if_neg c3] at H
    have c3b0 : decide (1048576 < (wrap64 ((l0.length : Int) + (l1.length : Int)))) = false := decide_eq_false c3
    clear c3
    replace H := Option.bind_eq_some_iff.mp H
    obtain ⟨t202, A40, H⟩ := H
    replace H : ((impl_SumOf.f k t202).bind fun bt203 => ((spec_SumOf.f k t202).bind fun bt206 => (if (bt203.2.2 != bt206.2.2) = true then (none) else (if bt203.1 = bt206.1 then (laws_FnSums.j0 k l1 t202 bt203.1 bt203.2.1 bt203.2.2 (bt203.2.1 != bt206.2.1)) else (none))))) = some r := H
    have A4 := Aside0.mk A40
    clear A40
    replace H := Option.bind_eq_some_iff.mp H
    obtain ⟨⟨t203, t204, t205⟩, A50, H⟩ := H
    replace H : ((spec_SumOf.f k t202).bind fun bt206 => (if (t205 != bt206.2.2) = true then (none) else (if t203 = bt206.1 then (laws_FnSums.j0 k l1 t202 t203 t204 t205 (t204 != bt206.2.1)) else (none)))) = some r := H
    have A5 := Aside0.mk A50
    clear A50
    replace H := Option.bind_eq_some_iff.mp H
    obtain ⟨⟨t206, t207, t208⟩, A60, H⟩ := H
    replace H : (if (t205 != t208) = true then (none) else (if t203 = t206 then (laws_FnSums.j0 k l1 t202 t203 t204 t205 (t204 != t207)) else (none))) = some r := H
    have A6 := Aside0.mk A60
    clear A60
    have HC7 := Aside0.mk H
    clear H
    go_enter Try.func12, Try.ntmps12
    go_upto_region 6 with (first | (go_at_call 30; (with_reducible refine (spec_DrawSumOf.calls k _ _ l0 t202 _ ?side1 ?side2 A4.out).mono ?_); (case side1 => repeat (first | exact HR0.out | (with_reducible refine Kd.C_alloc ?_ _) | (with_reducible refine Kd.C_drewN ?_ _) | (with_reducible refine Kd.C_drew ?_))); (case side2 => exact HC0.out); rintro e w8 ⟨rfl, hb⟩; have n0_ := Aside0.mk (below_step (by repeat (first | (with_reducible first | exact HB.out | apply below_alloc | apply pw_below_drewN | apply below_drew1) | exact HB.out)) hb); clear HB; have HB := n0_; clear n0_; (try clear hb); (try clear hb2); (try clear hk); (try clear hi)) | (go_at_call 20; (with_reducible refine (impl_SumOf.calls k t202 t203 t204 t205 _ A5.out).mono ?_); rintro e w' ⟨rfl, ⟨nd, rfl⟩⟩; (try first | exact ⟨rfl, _, World.drewN_drewN _ _ _⟩ | exact ⟨rfl, _, Eq.trans (World.drewN_drewN _ _ _) (congrArg (World.drewN _) (Nat.add_assoc _ _ _))⟩)) | (go_at_call 19; (with_reducible refine (spec_SumOf.calls k t202 t206 t207 t208 _ A6.out).mono ?_); rintro e w' ⟨rfl, ⟨nd, rfl⟩⟩; (try first | exact ⟨rfl, _, World.drewN_drewN _ _ _⟩ | exact ⟨rfl, _, Eq.trans (World.drewN_drewN _ _ _) (congrArg (World.drewN _) (Nat.add_assoc _ _ _))⟩)))
    repeat (go_quiet (first | (go_at_call 30; (with_reducible refine (spec_DrawSumOf.calls k _ _ l0 t202 _ ?side1 ?side2 A4.out).mono ?_); (case side1 => repeat (first | exact HR0.out | (with_reducible refine Kd.C_alloc ?_ _) | (with_reducible refine Kd.C_drewN ?_ _) | (with_reducible refine Kd.C_drew ?_))); (case side2 => exact HC0.out); rintro e w8 ⟨rfl, hb⟩; clear A4; clear A4; have n0_ := Aside0.mk (below_step (by repeat (first | (with_reducible first | exact HB.out | apply below_alloc | apply pw_below_drewN | apply below_drew1) | exact HB.out)) hb); clear HB; have HB := n0_; clear n0_; (try clear hb); (try clear hb2); (try clear hk); (try clear hi)) | (go_at_call 20; (with_reducible refine (impl_SumOf.calls k t202 t203 t204 t205 _ A5.out).mono ?_); rintro e w' ⟨rfl, ⟨nd, rfl⟩⟩; (try first | exact ⟨rfl, _, World.drewN_drewN _ _ _⟩ | exact ⟨rfl, _, Eq.trans (World.drewN_drewN _ _ _) (congrArg (World.drewN _) (Nat.add_assoc _ _ _))⟩)) | (go_at_call 19; (with_reducible refine (spec_SumOf.calls k t202 t206 t207 t208 _ A6.out).mono ?_); rintro e w' ⟨rfl, ⟨nd, rfl⟩⟩; (try first | exact ⟨rfl, _, World.drewN_drewN _ _ _⟩ | exact ⟨rfl, _, Eq.trans (World.drewN_drewN _ _ _) (congrArg (World.drewN _) (Nat.add_assoc _ _ _))⟩))); go_upto_region 6 with (first | (go_at_call 30; (with_reducible refine (spec_DrawSumOf.calls k _ _ l0 t202 _ ?side1 ?side2 A4.out).mono ?_); (case side1 => repeat (first | exact HR0.out | (with_reducible refine Kd.C_alloc ?_ _) | (with_reducible refine Kd.C_drewN ?_ _) | (with_reducible refine Kd.C_drew ?_))); (case side2 => exact HC0.out); rintro e w8 ⟨rfl, hb⟩; clear A4; clear A4; have n0_ := Aside0.mk (below_step (by repeat (first | (with_reducible first | exact HB.out | apply below_alloc | apply pw_below_drewN | apply below_drew1) | exact HB.out)) hb); clear HB; have HB := n0_; clear n0_; (try clear hb); (try clear hb2); (try clear hk); (try clear hi)) | (go_at_call 20; (with_reducible refine (impl_SumOf.calls k t202 t203 t204 t205 _ A5.out).mono ?_); rintro e w' ⟨rfl, ⟨nd, rfl⟩⟩; (try first | exact ⟨rfl, _, World.drewN_drewN _ _ _⟩ | exact ⟨rfl, _, Eq.trans (World.drewN_drewN _ _ _) (congrArg (World.drewN _) (Nat.add_assoc _ _ _))⟩)) | (go_at_call 19; (with_reducible refine (spec_SumOf.calls k t202 t206 t207 t208 _ A6.out).mono ?_); rintro e w' ⟨rfl, ⟨nd, rfl⟩⟩; (try first | exact ⟨rfl, _, World.drewN_drewN _ _ _⟩ | exact ⟨rfl, _, Eq.trans (World.drewN_drewN _ _ _) (congrArg (World.drewN _) (Nat.add_assoc _ _ _))⟩))))
    (try simp only [Act.put, List.setIfInBounds_toArray, List.set_cons_zero, List.set_cons_succ])
    go_cut [87] (fun v87 wc => ∃ (kq : Nat) (x87_6 : Bool), v87 = .bool x87_6 ∧ Aside0 (laws_FnSums.j0 kq l1 t202 t203 t204 t205 x87_6 = some r) ∧ Aside0 (kq ≤ k) ∧ Aside0 (Below w.heap.size w wc))
    case first =>
      have H := HC7.out
      clear HC7
      by_cases c9 : (t205 != t208) = true
      · rw [if_pos c9] at H
        exact absurd H (by simp)
      · rw [if_neg c9] at H
        have c9b0 : (t205 != t208) = false := by simpa using c9
        (try (have c9b1 : decide (t205 = t208) = true := by simpa using c9))
        (try (have c9b2 : (t205 == t208) = true := by simpa using c9))
        clear c9
        (first | rw [c9b0] | (simp only [i64_w, i32_w]; rw [c9b0]) | skip)
        by_cases c10 : t203 = t206
        · rw [if_pos c10] at H
          have c10b0 : (t203 == t206) = true := beq_iff_eq.mpr c10
          have c10b1 : (t203 != t206) = false := bne_eq_false_iff_eq.mpr c10
          clear c10
          as_aux_lemma =>
            have H' := Aside0.mk H
            clear H
            go_wp2
            repeat (go_quiet (fail); try go_wp2)
            go_meet
            case rel => exact ⟨_, ((t204 != t207)), (by first | rfl | (simp; done) | (simp [*]; done)), H', ⟨by first | omega | exact Nat.le_refl _⟩, ⟨by repeat (first | (with_reducible first | exact HB.out | apply below_alloc | apply pw_below_drewN | apply below_drew1) | exact HB.out)⟩⟩
        · rw [if_neg c10] at H
          exact absurd H (by simp)
    case rest =>
      clear HC7
      try clear c1
      try clear p2
      try clear c3
      try clear c3b0
      try clear p6
      try clear c9
      try clear c9b0
      try clear c9b1
      try clear c9b2
      try clear c10
      try clear c10b0
      try clear c10b1
      obtain ⟨kq, x87_6, rfl, HA, HJ6, HB⟩ := hcut
      cases kq with
      | zero => exact absurd HA.out (by simp [laws_FnSums.j0])
      | succ kj6 =>
        have H := HA.out
        clear HA
        simp only [laws_FnSums.j0] at H
        by_cases c11 : x87_6 = true
        · subst c11
          have H1 : (none) = some r := by rw [if_pos rfl] at H; exact H
          clear H
          have H := H1
          clear H1
          exact absurd H (by simp)
        · replace c11 := Bool.eq_false_iff.mpr c11
          subst c11
          have H1 : (if t205 = true then ((laws_numberOf.f kj6 l1).bind fun t209 => (if (wrap64 ((t202.size : Int) + 1)) = 0 then (none) else (if 0 ≤ (Int.tmod t209 (wrap64 ((t202.size : Int) + 1))) then (if (Int.tmod t209 (wrap64 ((t202.size : Int) + 1))) ≤ (t202.size : Int) then ((impl_SumOf.f kj6 (t202.extract 0 ((Int.tmod t209 (wrap64 ((t202.size : Int) + 1))) : Int).toNat)).bind fun bt210 => ((impl_SumOf.f kj6 (t202.extract ((Int.tmod t209 (wrap64 ((t202.size : Int) + 1))) : Int).toNat t202.size)).bind fun bt213 => ((impl_AddSums.f bt210.1 bt210.2.1 bt213.1 bt213.2.1 (wrap64 ((t202.size : Int) - (Int.tmod t209 (wrap64 ((t202.size : Int) + 1)))))).bind fun bt216 => (if bt210.2.2 = true then (if bt213.2.2 = true then (if bt216.2.2 = true then (if bt216.1 = t203 then (laws_FnSums.j1 kj6 l1 t202 t204 (bt216.2.1 != t204)) else (none)) else (none)) else (none)) else (none))))) else (none)) else (none)))) else (laws_FnSums.j3 kj6 l1)) = some r := by rw [if_neg (show ¬ (false = true) by decide)] at H; exact H
          clear H
          have H := H1
          clear H1
          have HC12 := Aside0.mk H
          clear H
          go_upto_if 88 with (fail)
          repeat (go_quiet (fail); go_upto_if 88 with (fail))
          go_cut [] (fun wc => ∃ (kq : Nat), Aside0 (laws_FnSums.j3 kq l1 = some r) ∧ Aside0 (kq ≤ kj6) ∧ Aside0 (Below w.heap.size w wc))
          case first =>
            have H := HC12.out
            clear HC12
            by_cases c13 : t205 = true
            · subst c13
              have H1 : ((laws_numberOf.f kj6 l1).bind fun t209 => (if (wrap64 ((t202.size : Int) + 1)) = 0 then (none) else (if 0 ≤ (Int.tmod t209 (wrap64 ((t202.size : Int) + 1))) then (if (Int.tmod t209 (wrap64 ((t202.size : Int) + 1))) ≤ (t202.size : Int) then ((impl_SumOf.f kj6 (t202.extract 0 ((Int.tmod t209 (wrap64 ((t202.size : Int) + 1))) : Int).toNat)).bind fun bt210 => ((impl_SumOf.f kj6 (t202.extract ((Int.tmod t209 (wrap64 ((t202.size : Int) + 1))) : Int).toNat t202.size)).bind fun bt213 => ((impl_AddSums.f bt210.1 bt210.2.1 bt213.1 bt213.2.1 (wrap64 ((t202.size : Int) - (Int.tmod t209 (wrap64 ((t202.size : Int) + 1)))))).bind fun bt216 => (if bt210.2.2 = true then (if bt213.2.2 = true then (if bt216.2.2 = true then (if bt216.1 = t203 then (laws_FnSums.j1 kj6 l1 t202 t204 (bt216.2.1 != t204)) else (none)) else (none)) else (none)) else (none))))) else (none)) else (none)))) = some r := by rw [if_pos rfl] at H; exact H
              clear H
              have H := H1
              clear H1
              replace H := Option.bind_eq_some_iff.mp H
              obtain ⟨t209, A140, H⟩ := H
              replace H : (if (wrap64 ((t202.size : Int) + 1)) = 0 then (none) else (if 0 ≤ (Int.tmod t209 (wrap64 ((t202.size : Int) + 1))) then (if (Int.tmod t209 (wrap64 ((t202.size : Int) + 1))) ≤ (t202.size : Int) then ((impl_SumOf.f kj6 (t202.extract 0 ((Int.tmod t209 (wrap64 ((t202.size : Int) + 1))) : Int).toNat)).bind fun bt210 => ((impl_SumOf.f kj6 (t202.extract ((Int.tmod t209 (wrap64 ((t202.size : Int) + 1))) : Int).toNat t202.size)).bind fun bt213 => ((impl_AddSums.f bt210.1 bt210.2.1 bt213.1 bt213.2.1 (wrap64 ((t202.size : Int) - (Int.tmod t209 (wrap64 ((t202.size : Int) + 1)))))).bind fun bt216 => (if bt210.2.2 = true then (if bt213.2.2 = true then (if bt216.2.2 = true then (if bt216.1 = t203 then (laws_FnSums.j1 kj6 l1 t202 t204 (bt216.2.1 != t204)) else (none)) else (none)) else (none)) else (none))))) else (none)) else (none))) = some r := H
              have A14 := Aside0.mk A140
              clear A140
              by_cases c15 : (wrap64 ((t202.size : Int) + 1)) = 0
              · rw [if_pos c15] at H
                exact absurd H (by simp)
              · rw [if_neg c15] at H
                have c15b0 : ((wrap64 ((t202.size : Int) + 1)) == 0) = false := beq_eq_false_iff_ne.mpr c15
                have c15b1 : ((wrap64 ((t202.size : Int) + 1)) != 0) = true := bne_iff_ne.mpr c15
                (first | rw [c15b0] | (simp only [i64_w, i32_w]; rw [c15b0]) | skip)
                obtain ⟨ji16, hji16⟩ : ∃ j_ : Int, (Int.tmod t209 (wrap64 ((t202.size : Int) + 1))) = j_ := ⟨_, rfl⟩
                replace H : (if 0 ≤ (ji16) then (if (ji16) ≤ (t202.size : Int) then ((impl_SumOf.f kj6 (t202.extract 0 ((ji16) : Int).toNat)).bind fun bt210 => ((impl_SumOf.f kj6 (t202.extract ((ji16) : Int).toNat t202.size)).bind fun bt213 => ((impl_AddSums.f bt210.1 bt210.2.1 bt213.1 bt213.2.1 (wrap64 ((t202.size : Int) - (ji16)))).bind fun bt216 => (if bt210.2.2 = true then (if bt213.2.2 = true then (if bt216.2.2 = true then (if bt216.1 = t203 then (laws_FnSums.j1 kj6 l1 t202 t204 (bt216.2.1 != t204)) else (none)) else (none)) else (none)) else (none))))) else (none)) else (none)) = some r := by first | (rw [hji16] at H; exact H) | (simp only [hji16] at H ⊢; exact H)
                (try rw [hji16] at A14)
                by_cases c17 : 0 ≤ (ji16)
                · rw [if_pos c17] at H
                  have c17b0 := eq_true c17
                  have c17b1 : decide (0 ≤ (ji16)) = true := decide_eq_true c17
                  clear c17
                  by_cases c18 : (ji16) ≤ (t202.size : Int)
                  · rw [if_pos c18] at H
                    have c18b0 := eq_true c18
                    have c18b1 : decide ((ji16) ≤ (t202.size : Int)) = true := decide_eq_true c18
                    clear c18
                    replace H := Option.bind_eq_some_iff.mp H
                    obtain ⟨⟨t210, t211, t212⟩, A190, H⟩ := H
                    replace H : ((impl_SumOf.f kj6 (t202.extract ((ji16) : Int).toNat t202.size)).bind fun bt213 => ((impl_AddSums.f t210 t211 bt213.1 bt213.2.1 (wrap64 ((t202.size : Int) - (ji16)))).bind fun bt216 => (if t212 = true then (if bt213.2.2 = true then (if bt216.2.2 = true then (if bt216.1 = t203 then (laws_FnSums.j1 kj6 l1 t202 t204 (bt216.2.1 != t204)) else (none)) else (none)) else (none)) else (none)))) = some r := H
                    have A19 := Aside0.mk A190
                    clear A190
                    have c20b0 := eq_true (of_decide_eq_true (by first | (with_reducible assumption) | assumption) : 0 ≤ (ji16))
                    have c21b0 := eq_true (of_decide_eq_true (by first | (with_reducible assumption) | assumption) : (ji16) ≤ (t202.size : Int))
                    replace H := Option.bind_eq_some_iff.mp H
                    obtain ⟨⟨t213, t214, t215⟩, A220, H⟩ := H
                    replace H : ((impl_AddSums.f t210 t211 t213 t214 (wrap64 ((t202.size : Int) - (ji16)))).bind fun bt216 => (if t212 = true then (if t215 = true then (if bt216.2.2 = true then (if bt216.1 = t203 then (laws_FnSums.j1 kj6 l1 t202 t204 (bt216.2.1 != t204)) else (none)) else (none)) else (none)) else (none))) = some r := H
                    have A22 := Aside0.mk A220
                    clear A220
                    replace H := Option.bind_eq_some_iff.mp H
                    obtain ⟨⟨t216, t217, t218⟩, A230, H⟩ := H
                    replace H : (if t212 = true then (if t215 = true then (if t218 = true then (if t216 = t203 then (laws_FnSums.j1 kj6 l1 t202 t204 (t217 != t204)) else (none)) else (none)) else (none)) else (none)) = some r := H
                    have A23 := Aside0.mk A230
                    clear A230
                    have HC24 := Aside0.mk H
                    clear H
                    go_upto_region 13 with (first | (go_at_call 31; (with_reducible refine (laws_numberOf.calls kj6 _ _ l1 t209 _ ?side1 ?side2 A14.out).mono ?_); (case side1 => repeat (first | exact (Kd.C_below HR1.out HB.out) | (with_reducible refine Kd.C_alloc ?_ _) | (with_reducible refine Kd.C_drewN ?_ _) | (with_reducible refine Kd.C_drew ?_))); (case side2 => exact HC1.out); rintro e w' ⟨rfl, ⟨nd, rfl⟩⟩; (try first | exact ⟨rfl, _, World.drewN_drewN _ _ _⟩ | exact ⟨rfl, _, Eq.trans (World.drewN_drewN _ _ _) (congrArg (World.drewN _) (Nat.add_assoc _ _ _))⟩)) | (go_at_call 20; (with_reducible refine (impl_SumOf.calls kj6 (t202.extract 0 ((ji16) : Int).toNat) t210 t211 t212 _ A19.out).mono ?_); rintro e w' ⟨rfl, ⟨nd, rfl⟩⟩; (try first | exact ⟨rfl, _, World.drewN_drewN _ _ _⟩ | exact ⟨rfl, _, Eq.trans (World.drewN_drewN _ _ _) (congrArg (World.drewN _) (Nat.add_assoc _ _ _))⟩)) | (go_at_call 20; (with_reducible refine (impl_SumOf.calls kj6 (t202.extract ((ji16) : Int).toNat t202.size) t213 t214 t215 _ A22.out).mono ?_); rintro e w' ⟨rfl, ⟨nd, rfl⟩⟩; (try first | exact ⟨rfl, _, World.drewN_drewN _ _ _⟩ | exact ⟨rfl, _, Eq.trans (World.drewN_drewN _ _ _) (congrArg (World.drewN _) (Nat.add_assoc _ _ _))⟩)) | (go_at_call 16; (with_reducible refine (impl_AddSums.calls t210 t211 t213 t214 (wrap64 ((t202.size : Int) - (ji16))) t216 t217 t218 _ A23.out).mono ?_); rintro e w' ⟨rfl, ⟨nd, rfl⟩⟩; (try first | exact ⟨rfl, _, World.drewN_drewN _ _ _⟩ | exact ⟨rfl, _, Eq.trans (World.drewN_drewN _ _ _) (congrArg (World.drewN _) (Nat.add_assoc _ _ _))⟩)))
                    repeat (go_quiet (first | (go_at_call 31; (with_reducible refine (laws_numberOf.calls kj6 _ _ l1 t209 _ ?side1 ?side2 A14.out).mono ?_); (case side1 => repeat (first | exact (Kd.C_below HR1.out HB.out) | (with_reducible refine Kd.C_alloc ?_ _) | (with_reducible refine Kd.C_drewN ?_ _) | (with_reducible refine Kd.C_drew ?_))); (case side2 => exact HC1.out); rintro e w' ⟨rfl, ⟨nd, rfl⟩⟩; (try first | exact ⟨rfl, _, World.drewN_drewN _ _ _⟩ | exact ⟨rfl, _, Eq.trans (World.drewN_drewN _ _ _) (congrArg (World.drewN _) (Nat.add_assoc _ _ _))⟩)) | (go_at_call 20; (with_reducible refine (impl_SumOf.calls kj6 (t202.extract 0 ((ji16) : Int).toNat) t210 t211 t212 _ A19.out).mono ?_); rintro e w' ⟨rfl, ⟨nd, rfl⟩⟩; (try first | exact ⟨rfl, _, World.drewN_drewN _ _ _⟩ | exact ⟨rfl, _, Eq.trans (World.drewN_drewN _ _ _) (congrArg (World.drewN _) (Nat.add_assoc _ _ _))⟩)) | (go_at_call 20; (with_reducible refine (impl_SumOf.calls kj6 (t202.extract ((ji16) : Int).toNat t202.size) t213 t214 t215 _ A22.out).mono ?_); rintro e w' ⟨rfl, ⟨nd, rfl⟩⟩; (try first | exact ⟨rfl, _, World.drewN_drewN _ _ _⟩ | exact ⟨rfl, _, Eq.trans (World.drewN_drewN _ _ _) (congrArg (World.drewN _) (Nat.add_assoc _ _ _))⟩)) | (go_at_call 16; (with_reducible refine (impl_AddSums.calls t210 t211 t213 t214 (wrap64 ((t202.size : Int) - (ji16))) t216 t217 t218 _ A23.out).mono ?_); rintro e w' ⟨rfl, ⟨nd, rfl⟩⟩; (try first | exact ⟨rfl, _, World.drewN_drewN _ _ _⟩ | exact ⟨rfl, _, Eq.trans (World.drewN_drewN _ _ _) (congrArg (World.drewN _) (Nat.add_assoc _ _ _))⟩))); go_upto_region 13 with (first | (go_at_call 31; (with_reducible refine (laws_numberOf.calls kj6 _ _ l1 t209 _ ?side1 ?side2 A14.out).mono ?_); (case side1 => repeat (first | exact (Kd.C_below HR1.out HB.out) | (with_reducible refine Kd.C_alloc ?_ _) | (with_reducible refine Kd.C_drewN ?_ _) | (with_reducible refine Kd.C_drew ?_))); (case side2 => exact HC1.out); rintro e w' ⟨rfl, ⟨nd, rfl⟩⟩; (try first | exact ⟨rfl, _, World.drewN_drewN _ _ _⟩ | exact ⟨rfl, _, Eq.trans (World.drewN_drewN _ _ _) (congrArg (World.drewN _) (Nat.add_assoc _ _ _))⟩)) | (go_at_call 20; (with_reducible refine (impl_SumOf.calls kj6 (t202.extract 0 ((ji16) : Int).toNat) t210 t211 t212 _ A19.out).mono ?_); rintro e w' ⟨rfl, ⟨nd, rfl⟩⟩; (try first | exact ⟨rfl, _, World.drewN_drewN _ _ _⟩ | exact ⟨rfl, _, Eq.trans (World.drewN_drewN _ _ _) (congrArg (World.drewN _) (Nat.add_assoc _ _ _))⟩)) | (go_at_call 20; (with_reducible refine (impl_SumOf.calls kj6 (t202.extract ((ji16) : Int).toNat t202.size) t213 t214 t215 _ A22.out).mono ?_); rintro e w' ⟨rfl, ⟨nd, rfl⟩⟩; (try first | exact ⟨rfl, _, World.drewN_drewN _ _ _⟩ | exact ⟨rfl, _, Eq.trans (World.drewN_drewN _ _ _) (congrArg (World.drewN _) (Nat.add_assoc _ _ _))⟩)) | (go_at_call 16; (with_reducible refine (impl_AddSums.calls t210 t211 t213 t214 (wrap64 ((t202.size : Int) - (ji16))) t216 t217 t218 _ A23.out).mono ?_); rintro e w' ⟨rfl, ⟨nd, rfl⟩⟩; (try first | exact ⟨rfl, _, World.drewN_drewN _ _ _⟩ | exact ⟨rfl, _, Eq.trans (World.drewN_drewN _ _ _) (congrArg (World.drewN _) (Nat.add_assoc _ _ _))⟩))))
                    (try simp only [Act.put, List.setIfInBounds_toArray, List.set_cons_zero, List.set_cons_succ])
                    go_cut [143] (fun v143 wc => ∃ (kq : Nat) (x143_23 : Bool), v143 = .bool x143_23 ∧ Aside0 (laws_FnSums.j1 kq l1 t202 t204 x143_23 = some r) ∧ Aside0 (kq ≤ kj6) ∧ Aside0 (Below w.heap.size w wc))
                    case first =>
                      have H := HC24.out
                      clear HC24
                      by_cases c25 : t212 = true
                      · subst c25
                        have H1 : (if t215 = true then (if t218 = true then (if t216 = t203 then (laws_FnSums.j1 kj6 l1 t202 t204 (t217 != t204)) else (none)) else (none)) else (none)) = some r := by rw [if_pos rfl] at H; exact H
                        clear H
                        have H := H1
                        clear H1
                        by_cases c26 : t215 = true
                        · subst c26
                          have H1 : (if t218 = true then (if t216 = t203 then (laws_FnSums.j1 kj6 l1 t202 t204 (t217 != t204)) else (none)) else (none)) = some r := by rw [if_pos rfl] at H; exact H
                          clear H
                          have H := H1
                          clear H1
                          by_cases c27 : t218 = true
                          · subst c27
                            have H1 : (if t216 = t203 then (laws_FnSums.j1 kj6 l1 t202 t204 (t217 != t204)) else (none)) = some r := by rw [if_pos rfl] at H; exact H
                            clear H
                            have H := H1
                            clear H1
                            by_cases c28 : t216 = t203
                            · rw [if_pos c28] at H
                              have c28b0 : (t216 == t203) = true := beq_iff_eq.mpr c28
                              have c28b1 : (t216 != t203) = false := bne_eq_false_iff_eq.mpr c28
                              clear c28
                              (first | rw [c28b0] | (simp only [i64_w, i32_w]; rw [c28b0]) | skip)
                              as_aux_lemma =>
                                have H' := Aside0.mk H
                                clear H
                                go_wp2
                                repeat (go_quiet (fail); try go_wp2)
                                go_meet
                                case rel => exact ⟨_, ((t217 != t204)), (by first | rfl | (simp; done) | (simp [*]; done)), H', ⟨by have := HJ6.out; first | omega | exact Nat.le_refl _⟩, ⟨by repeat (first | (with_reducible first | exact HB.out | apply below_alloc | apply pw_below_drewN | apply below_drew1) | exact HB.out)⟩⟩
                            · rw [if_neg c28] at H
                              exact absurd H (by simp)
                          · replace c27 := Bool.eq_false_iff.mpr c27
                            subst c27
                            have H1 : (none) = some r := by rw [if_neg (show ¬ (false = true) by decide)] at H; exact H
                            clear H
                            have H := H1
                            clear H1
                            exact absurd H (by simp)
                        · replace c26 := Bool.eq_false_iff.mpr c26
                          subst c26
                          have H1 : (none) = some r := by rw [if_neg (show ¬ (false = true) by decide)] at H; exact H
                          clear H
                          have H := H1
                          clear H1
                          exact absurd H (by simp)
                      · replace c25 := Bool.eq_false_iff.mpr c25
                        subst c25
                        have H1 : (none) = some r := by rw [if_neg (show ¬ (false = true) by decide)] at H; exact H
                        clear H
                        have H := H1
                        clear H1
                        exact absurd H (by simp)
                    case rest =>
                      clear HC24
                      try clear c1
                      try clear c2
                      try clear p2
                      try clear c3
                      try clear c3b0
                      try clear p6
                      try clear c9
                      try clear c9b0
                      try clear c9b1
                      try clear c9b2
                      try clear c10
                      try clear c10b0
                      try clear c10b1
                      try clear c11
                      try clear c12
                      try clear c13
                      try clear c15
                      try clear c15b0
                      try clear c15b1
                      try clear c17
                      try clear c17b0
                      try clear c17b1
                      try clear c18
                      try clear c18b0
                      try clear c18b1
                      try clear c20
                      try clear c20b0
                      try clear c21
                      try clear c21b0
                      try clear c25
                      try clear c26
                      try clear c27
                      try clear c28
                      try clear c28b0
                      try clear c28b1
                      try clear p2
                      try clear p6
                      obtain ⟨kq, x143_23, rfl, HA, HJ23, HB⟩ := hcut
                      cases kq with
                      | zero => exact absurd HA.out (by simp [laws_FnSums.j1])
                      | succ kj23 =>
                        have H := HA.out
                        clear HA
                        simp only [laws_FnSums.j1] at H
                        by_cases c29 : x143_23 = true
                        · subst c29
                          have H1 : (none) = some r := by rw [if_pos rfl] at H; exact H
                          clear H
                          have H := H1
                          clear H1
                          exact absurd H (by simp)
                        · replace c29 := Bool.eq_false_iff.mpr c29
                          subst c29
                          have H1 : (laws_FnSums.l0 kj23 l1 t202 t204 0 (t202.size : Int) 0) = some r := by rw [if_neg (show ¬ (false = true) by decide)] at H; exact H
                          clear H
                          have H := H1
                          clear H1
                          have H' := Aside0.mk H
                          clear H
                          go_wp2_with (first | ((with_reducible refine gate_dst (N := 145) rfl ?_); refine bytes_event ?hg (N := 145) ?hd (e := 5) (s := t202) (c := ?cc_) ?hr ?_; (case hd => rfl); (case hg => rfl); (case hr => have kb := fun W => print_bytes (P := Try.prog) 9 35 5 Try.underlying9 Try.underlying35 Try.underlying5 t202 W; first | (go_simp; done) | (go_simp; rfl) | (simp only [kb]; rfl)); intro g145 w145 hb; have n0_ := Aside0.mk (below_step (by repeat (first | (with_reducible first | exact HB.out | apply below_alloc | apply pw_below_drewN | apply below_drew1) | exact HB.out)) hb); clear HB; have HB := n0_; clear n0_ hb))
                          repeat (go_quiet (first | ((with_reducible refine gate_dst (N := 145) rfl ?_); refine bytes_event ?hg (N := 145) ?hd (e := 5) (s := t202) (c := ?cc_) ?hr ?_; (case hd => rfl); (case hg => rfl); (case hr => have kb := fun W => print_bytes (P := Try.prog) 9 35 5 Try.underlying9 Try.underlying35 Try.underlying5 t202 W; first | (go_simp; done) | (go_simp; rfl) | (simp only [kb]; rfl)); intro g145 w145 hb; have n0_ := Aside0.mk (below_step (by repeat (first | (with_reducible first | exact HB.out | apply below_alloc | apply pw_below_drewN | apply below_drew1) | exact HB.out)) hb); clear HB; have HB := n0_; clear n0_ hb)); go_wp2_with (first | ((with_reducible refine gate_dst (N := 145) rfl ?_); refine bytes_event ?hg (N := 145) ?hd (e := 5) (s := t202) (c := ?cc_) ?hr ?_; (case hd => rfl); (case hg => rfl); (case hr => have kb := fun W => print_bytes (P := Try.prog) 9 35 5 Try.underlying9 Try.underlying35 Try.underlying5 t202 W; first | (go_simp; done) | (go_simp; rfl) | (simp only [kb]; rfl)); intro g145 w145 hb; have n0_ := Aside0.mk (below_step (by repeat (first | (with_reducible first | exact HB.out | apply below_alloc | apply pw_below_drewN | apply below_drew1) | exact HB.out)) hb); clear HB; have HB := n0_; clear n0_ hb)))
                          go_loopg [22, 147] kj23 (fun kq v22 v147 w' => ∃ (x22_3 : Int) (x147_3 : Int), v22 = .int .i64 x22_3 ∧ v147 = .int .i64 x147_3 ∧ Aside0 (laws_FnSums.l0 kq l1 t202 t204 x22_3 (t202.size : Int) x147_3 = some r) ∧ Aside0 (kq ≤ kj23) ∧ Aside0 (Below w.heap.size w w'))
                          case atStart => exact ⟨(0), (0), (by first | rfl | (simp; done) | (simp [*]; done)), (by first | rfl | (simp; done) | (simp [*]; done)), H', ⟨Nat.le_refl _⟩, ⟨by repeat (first | (with_reducible first | exact HB.out | apply below_alloc | apply pw_below_drewN | apply below_drew1) | exact HB.out)⟩⟩
                          case round =>
                            clear H'
                            try clear c1
                            try clear c2
                            try clear p2
                            try clear c3
                            try clear c3b0
                            try clear p6
                            try clear c9
                            try clear c9b0
                            try clear c9b1
                            try clear c9b2
                            try clear c10
                            try clear c10b0
                            try clear c10b1
                            try clear c11
                            try clear c12
                            try clear c13
                            try clear c15
                            try clear c15b0
                            try clear c15b1
                            try clear c17
                            try clear c17b0
                            try clear c17b1
                            try clear c18
                            try clear c18b0
                            try clear c18b1
                            try clear c20
                            try clear c20b0
                            try clear c21
                            try clear c21b0
                            try clear c25
                            try clear c26
                            try clear c27
                            try clear c28
                            try clear c28b0
                            try clear c28b1
                            try clear c29
                            try clear p2
                            try clear p6
                            obtain ⟨x22_3, x147_3, rfl, rfl, HA, HK3, HB⟩ := hrel
                            cases gk with
                            | zero => exact absurd HA.out (by simp [laws_FnSums.l0])
                            | succ k3 =>
                              have H := HA.out
                              clear HA
                              simp only [laws_FnSums.l0] at H
                              by_cases c30 : x147_3 < (t202.size : Int)
                              · rw [if_pos c30] at H
                                have c30b0 : decide (x147_3 < (t202.size : Int)) = true := decide_eq_true c30
                                clear c30
                                replace H := Option.bind_eq_some_iff.mp H
                                obtain ⟨⟨t219, t220⟩, A310, H⟩ := H
                                replace H : (if t220 = true then (if 0 ≤ x147_3 then (if x147_3 < (t202.size : Int) then (laws_FnSums.l0 k3 l1 t202 t204 (Int.tmod (wrap64 (x22_3 + (wrap64 (t219 * (wrap64 (bt t202 x147_3)))))) 255) (t202.size : Int) (wrap64 (x147_3 + 1))) else (none)) else (none)) else (none)) = some r := H
                                have A31 := Aside0.mk A310
                                clear A310
                                by_cases c32 : t220 = true
                                · subst c32
                                  have H1 : (if 0 ≤ x147_3 then (if x147_3 < (t202.size : Int) then (laws_FnSums.l0 k3 l1 t202 t204 (Int.tmod (wrap64 (x22_3 + (wrap64 (t219 * (wrap64 (bt t202 x147_3)))))) 255) (t202.size : Int) (wrap64 (x147_3 + 1))) else (none)) else (none)) = some r := by rw [if_pos rfl] at H; exact H
                                  clear H
                                  have H := H1
                                  clear H1
                                  by_cases c33 : 0 ≤ x147_3
                                  · rw [if_pos c33] at H
                                    have c33b0 : decide (0 ≤ x147_3) = true := decide_eq_true c33
                                    clear c33
                                    by_cases c34 : x147_3 < (t202.size : Int)
                                    · rw [if_pos c34] at H
                                      have c34b0 : decide (x147_3 < (t202.size : Int)) = true := decide_eq_true c34
                                      clear c34
                                      as_aux_lemma =>
                                        have H' := Aside0.mk H
                                        clear H
                                        go_wp2_with (first | (go_at_call 14; (with_reducible refine (impl_WeightAt.calls t202 x147_3 t219 true _ A31.out).mono ?_); rintro e w' ⟨rfl, ⟨nd, rfl⟩⟩; (try first | exact ⟨rfl, _, World.drewN_drewN _ _ _⟩ | exact ⟨rfl, _, Eq.trans (World.drewN_drewN _ _ _) (congrArg (World.drewN _) (Nat.add_assoc _ _ _))⟩); have p35 : 0 ≤ (x147_3 : Int) := of_decide_eq_true (by first | (with_reducible assumption) | assumption); have q35 : x147_3 < (t202.size : Int) := of_decide_eq_true (by first | (with_reducible assumption) | assumption); have hx35 := bt_at t202 x147_3; replace p35 := eq_true p35; replace q35 := eq_true q35))
                                        repeat (go_quiet (first | (go_at_call 14; (with_reducible refine (impl_WeightAt.calls t202 x147_3 t219 true _ A31.out).mono ?_); rintro e w' ⟨rfl, ⟨nd, rfl⟩⟩; (try first | exact ⟨rfl, _, World.drewN_drewN _ _ _⟩ | exact ⟨rfl, _, Eq.trans (World.drewN_drewN _ _ _) (congrArg (World.drewN _) (Nat.add_assoc _ _ _))⟩); have p35 : 0 ≤ (x147_3 : Int) := of_decide_eq_true (by first | (with_reducible assumption) | assumption); have q35 : x147_3 < (t202.size : Int) := of_decide_eq_true (by first | (with_reducible assumption) | assumption); have hx35 := bt_at t202 x147_3; replace p35 := eq_true p35; replace q35 := eq_true q35)); try go_wp2_with (first | (go_at_call 14; (with_reducible refine (impl_WeightAt.calls t202 x147_3 t219 true _ A31.out).mono ?_); rintro e w' ⟨rfl, ⟨nd, rfl⟩⟩; (try first | exact ⟨rfl, _, World.drewN_drewN _ _ _⟩ | exact ⟨rfl, _, Eq.trans (World.drewN_drewN _ _ _) (congrArg (World.drewN _) (Nat.add_assoc _ _ _))⟩); have p35 : 0 ≤ (x147_3 : Int) := of_decide_eq_true (by first | (with_reducible assumption) | assumption); have q35 : x147_3 < (t202.size : Int) := of_decide_eq_true (by first | (with_reducible assumption) | assumption); have hx35 := bt_at t202 x147_3; replace p35 := eq_true p35; replace q35 := eq_true q35)))
                                        go_roundg k3
                                        case measure => have := HJ6.out; have := HJ23.out; have := HK3.out; omega
                                        case rel => exact ⟨(Int.tmod (wrap64 (x22_3 + (wrap64 (t219 * (wrap64 (bt t202 x147_3)))))) 255), (wrap64 (x147_3 + 1)), (by first | rfl | (simp; done) | (simp [*]; done)), (by first | rfl | (simp; done) | (simp [*]; done)), H', ⟨by have := HJ6.out; have := HJ23.out; have := HK3.out; omega⟩, ⟨by repeat (first | (with_reducible first | exact HB.out | apply below_alloc | apply pw_below_drewN | apply below_drew1) | exact HB.out)⟩⟩
                                    · rw [if_neg c34] at H
                                      exact absurd H (by simp)
                                  · rw [if_neg c33] at H
                                    exact absurd H (by simp)
                                · replace c32 := Bool.eq_false_iff.mpr c32
                                  subst c32
                                  have H1 : (none) = some r := by rw [if_neg (show ¬ (false = true) by decide)] at H; exact H
                                  clear H
                                  have H := H1
                                  clear H1
                                  exact absurd H (by simp)
                              · rw [if_neg c30] at H
                                have c30b0 : decide (x147_3 < (t202.size : Int)) = false := decide_eq_false c30
                                clear c30
                                by_cases c36 : x22_3 = t204
                                · rw [if_pos c36] at H
                                  have c36b0 : (x22_3 == t204) = true := beq_iff_eq.mpr c36
                                  have c36b1 : (x22_3 != t204) = false := bne_eq_false_iff_eq.mpr c36
                                  clear c36
                                  as_aux_lemma =>
                                    have H' := Aside0.mk H
                                    clear H
                                    go_wp2
                                    repeat (go_quiet (fail); try go_wp2)
                                    go_meet
                                    case rel => exact ⟨_, H', ⟨by have := HJ6.out; have := HJ23.out; have := HK3.out; first | omega | exact Nat.le_refl _⟩, ⟨by repeat (first | (with_reducible first | exact HB.out | apply below_alloc | apply pw_below_drewN | apply below_drew1) | exact HB.out)⟩⟩
                                · rw [if_neg c36] at H
                                  exact absurd H (by simp)
                  · rw [if_neg c18] at H
                    exact absurd H (by simp)
                · rw [if_neg c17] at H
                  exact absurd H (by simp)
            · replace c13 := Bool.eq_false_iff.mpr c13
              subst c13
              have H1 : (laws_FnSums.j3 kj6 l1) = some r := by rw [if_neg (show ¬ (false = true) by decide)] at H; exact H
              clear H
              have H := H1
              clear H1
              as_aux_lemma =>
                have H' := Aside0.mk H
                clear H
                go_wp2
                repeat (go_quiet (fail); try go_wp2)
                go_meet
                case rel => exact ⟨_, H', ⟨by have := HJ6.out; first | omega | exact Nat.le_refl _⟩, ⟨by repeat (first | (with_reducible first | exact HB.out | apply below_alloc | apply pw_below_drewN | apply below_drew1) | exact HB.out)⟩⟩
          case rest =>
            clear HC12
            try clear c1
            try clear c2
            try clear p2
            try clear c3
            try clear c3b0
            try clear p3
            try clear q3
            try clear hx3
            try clear p6
            try clear c9
            try clear c9b0
            try clear c9b1
            try clear c9b2
            try clear c10
            try clear c10b0
            try clear c10b1
            try clear c11
            try clear c12
            try clear c13
            try clear c15
            try clear c15b0
            try clear c15b1
            try clear c17
            try clear c17b0
            try clear c17b1
            try clear c18
            try clear c18b0
            try clear c18b1
            try clear c20
            try clear c20b0
            try clear c21
            try clear c21b0
            try clear c25
            try clear c26
            try clear c27
            try clear c28
            try clear c28b0
            try clear c28b1
            try clear c29
            try clear c30
            try clear c30b0
            try clear c32
            try clear c33
            try clear c33b0
            try clear c34
            try clear c34b0
            try clear p35
            try clear q35
            try clear hx35
            try clear c36
            try clear c36b0
            try clear c36b1
            try clear p2
            try clear p35
            try clear p6
            try clear q35
            obtain ⟨kq, HA, HJ11, HB⟩ := hcut
            cases kq with
            | zero => exact absurd HA.out (by simp [laws_FnSums.j3])
            | succ kj11 =>
              have H := HA.out
              clear HA
              simp only [laws_FnSums.j3] at H
              replace H := Option.bind_eq_some_iff.mp H
              obtain ⟨⟨t221, t222⟩, A370, H⟩ := H
              replace H : ((impl_SwapTwo.f t221 t222).bind fun bt223 => ((spec_SwapTwo.f kj11 t221 t222).bind fun bt225 => (if (bt223.2 != bt225.2) = true then (none) else (laws_FnSums.j4 kj11 l1 t221 t222 bt223.1 bt223.2 (bt223.1.toList != bt225.1.toList))))) = some r := H
              have A37 := Aside0.mk A370
              clear A370
              replace H := Option.bind_eq_some_iff.mp H
              obtain ⟨⟨t223, t224⟩, A380, H⟩ := H
              replace H : ((spec_SwapTwo.f kj11 t221 t222).bind fun bt225 => (if (t224 != bt225.2) = true then (none) else (laws_FnSums.j4 kj11 l1 t221 t222 t223 t224 (t223.toList != bt225.1.toList)))) = some r := H
              have A38 := Aside0.mk A380
              clear A380
              replace H := Option.bind_eq_some_iff.mp H
              obtain ⟨⟨t225, t226⟩, A390, H⟩ := H
              replace H : (if (t224 != t226) = true then (none) else (laws_FnSums.j4 kj11 l1 t221 t222 t223 t224 (t223.toList != t225.toList))) = some r := H
              have A39 := Aside0.mk A390
              clear A390
              have HC40 := Aside0.mk H
              clear H
              go_upto_region 29 with (first | (go_at_call 32; (with_reducible refine (spec_DrawSwapTwo.calls kj11 _ _ l1 t221 t222 _ ?side1 ?side2 A37.out).mono ?_); (case side1 => repeat (first | exact (Kd.C_below HR1.out HB.out) | (with_reducible refine Kd.C_alloc ?_ _) | (with_reducible refine Kd.C_drewN ?_ _) | (with_reducible refine Kd.C_drew ?_))); (case side2 => exact HC1.out); rintro e w41 ⟨rfl, hb⟩; have n0_ := Aside0.mk (below_step (by repeat (first | (with_reducible first | exact HB.out | apply below_alloc | apply pw_below_drewN | apply below_drew1) | exact HB.out)) hb); clear HB; have HB := n0_; clear n0_; (try clear hb); (try clear hb2); (try clear hk); (try clear hi)) | (go_at_call 18; (with_reducible refine (impl_SwapTwo.calls t221 t222 t223 t224 _ A38.out).mono ?_); rintro e w42 ⟨rfl, hb⟩; have n0_ := Aside0.mk (below_step (by repeat (first | (with_reducible first | exact HB.out | apply below_alloc | apply pw_below_drewN | apply below_drew1) | exact HB.out)) hb); clear HB; have HB := n0_; clear n0_; (try clear hb); (try clear hb2); (try clear hk); (try clear hi)) | (go_at_call 17; (with_reducible refine (spec_SwapTwo.calls kj11 t221 t222 t225 t226 _ A39.out).mono ?_); rintro e w43 ⟨rfl, hb⟩; have n0_ := Aside0.mk (below_step (by repeat (first | (with_reducible first | exact HB.out | apply below_alloc | apply pw_below_drewN | apply below_drew1) | exact HB.out)) hb); clear HB; have HB := n0_; clear n0_; (try clear hb); (try clear hb2); (try clear hk); (try clear hi)))
              repeat (go_quiet (first | (go_at_call 32; (with_reducible refine (spec_DrawSwapTwo.calls kj11 _ _ l1 t221 t222 _ ?side1 ?side2 A37.out).mono ?_); (case side1 => repeat (first | exact (Kd.C_below HR1.out HB.out) | (with_reducible refine Kd.C_alloc ?_ _) | (with_reducible refine Kd.C_drewN ?_ _) | (with_reducible refine Kd.C_drew ?_))); (case side2 => exact HC1.out); rintro e w41 ⟨rfl, hb⟩; clear A37; clear A37; have n0_ := Aside0.mk (below_step (by repeat (first | (with_reducible first | exact HB.out | apply below_alloc | apply pw_below_drewN | apply below_drew1) | exact HB.out)) hb); clear HB; have HB := n0_; clear n0_; (try clear hb); (try clear hb2); (try clear hk); (try clear hi)) | (go_at_call 18; (with_reducible refine (impl_SwapTwo.calls t221 t222 t223 t224 _ A38.out).mono ?_); rintro e w42 ⟨rfl, hb⟩; clear A38; clear A38; have n0_ := Aside0.mk (below_step (by repeat (first | (with_reducible first | exact HB.out | apply below_alloc | apply pw_below_drewN | apply below_drew1) | exact HB.out)) hb); clear HB; have HB := n0_; clear n0_; (try clear hb); (try clear hb2); (try clear hk); (try clear hi)) | (go_at_call 17; (with_reducible refine (spec_SwapTwo.calls kj11 t221 t222 t225 t226 _ A39.out).mono ?_); rintro e w43 ⟨rfl, hb⟩; clear A39; clear A39; have n0_ := Aside0.mk (below_step (by repeat (first | (with_reducible first | exact HB.out | apply below_alloc | apply pw_below_drewN | apply below_drew1) | exact HB.out)) hb); clear HB; have HB := n0_; clear n0_; (try clear hb); (try clear hb2); (try clear hk); (try clear hi))); go_upto_region 29 with (first | (go_at_call 32; (with_reducible refine (spec_DrawSwapTwo.calls kj11 _ _ l1 t221 t222 _ ?side1 ?side2 A37.out).mono ?_); (case side1 => repeat (first | exact (Kd.C_below HR1.out HB.out) | (with_reducible refine Kd.C_alloc ?_ _) | (with_reducible refine Kd.C_drewN ?_ _) | (with_reducible refine Kd.C_drew ?_))); (case side2 => exact HC1.out); rintro e w41 ⟨rfl, hb⟩; clear A37; clear A37; have n0_ := Aside0.mk (below_step (by repeat (first | (with_reducible first | exact HB.out | apply below_alloc | apply pw_below_drewN | apply below_drew1) | exact HB.out)) hb); clear HB; have HB := n0_; clear n0_; (try clear hb); (try clear hb2); (try clear hk); (try clear hi)) | (go_at_call 18; (with_reducible refine (impl_SwapTwo.calls t221 t222 t223 t224 _ A38.out).mono ?_); rintro e w42 ⟨rfl, hb⟩; clear A38; clear A38; have n0_ := Aside0.mk (below_step (by repeat (first | (with_reducible first | exact HB.out | apply below_alloc | apply pw_below_drewN | apply below_drew1) | exact HB.out)) hb); clear HB; have HB := n0_; clear n0_; (try clear hb); (try clear hb2); (try clear hk); (try clear hi)) | (go_at_call 17; (with_reducible refine (spec_SwapTwo.calls kj11 t221 t222 t225 t226 _ A39.out).mono ?_); rintro e w43 ⟨rfl, hb⟩; clear A39; clear A39; have n0_ := Aside0.mk (below_step (by repeat (first | (with_reducible first | exact HB.out | apply below_alloc | apply pw_below_drewN | apply below_drew1) | exact HB.out)) hb); clear HB; have HB := n0_; clear n0_; (try clear hb); (try clear hb2); (try clear hk); (try clear hi))))
              (try simp only [Act.put, List.setIfInBounds_toArray, List.set_cons_zero, List.set_cons_succ])
              go_cut [195] (fun v195 wc => ∃ (kq : Nat) (x195_39 : Bool), v195 = .bool x195_39 ∧ Aside0 (laws_FnSums.j4 kq l1 t221 t222 t223 t224 x195_39 = some r) ∧ Aside0 (kq ≤ kj11) ∧ Aside0 (Below w.heap.size w wc))
              case first =>
                have H := HC40.out
                clear HC40
                by_cases c44 : (t224 != t226) = true
                · rw [if_pos c44] at H
                  exact absurd H (by simp)
                · rw [if_neg c44] at H
                  have c44b0 : (t224 != t226) = false := by simpa using c44
                  (try (have c44b1 : decide (t224 = t226) = true := by simpa using c44))
                  (try (have c44b2 : (t224 == t226) = true := by simpa using c44))
                  clear c44
                  (first | rw [c44b0] | (simp only [i64_w, i32_w]; rw [c44b0]) | skip)
                  as_aux_lemma =>
                    have H' := Aside0.mk H
                    clear H
                    go_wp2
                    repeat (go_quiet (fail); try go_wp2)
                    go_meet
                    case rel => exact ⟨_, ((t223.toList != t225.toList)), (by first | rfl | (simp; done) | (simp [*]; done)), H', ⟨by have := HJ6.out; have := HJ11.out; first | omega | exact Nat.le_refl _⟩, ⟨by repeat (first | (with_reducible first | exact HB.out | apply below_alloc | apply pw_below_drewN | apply below_drew1) | exact HB.out)⟩⟩
              case rest =>
                clear HC40
                try clear c1
                try clear c2
                try clear p2
                try clear c3
                try clear c3b0
                try clear p3
                try clear q3
                try clear hx3
                try clear c4
                try clear p6
                try clear c9
                try clear c9b0
                try clear c9b1
                try clear c9b2
                try clear c10
                try clear c10b0
                try clear c10b1
                try clear c11
                try clear c12
                try clear c13
                try clear c15
                try clear c15b0
                try clear c15b1
                try clear c17
                try clear c17b0
                try clear c17b1
                try clear c18
                try clear c18b0
                try clear c18b1
                try clear c20
                try clear c20b0
                try clear c21
                try clear c21b0
                try clear c25
                try clear c26
                try clear c27
                try clear c28
                try clear c28b0
                try clear c28b1
                try clear c29
                try clear c30
                try clear c30b0
                try clear c32
                try clear c33
                try clear c33b0
                try clear c34
                try clear c34b0
                try clear p35
                try clear q35
                try clear hx35
                try clear c36
                try clear c36b0
                try clear c36b1
                try clear c44
                try clear c44b0
                try clear c44b1
                try clear c44b2
                try clear p2
                try clear p3
                try clear p35
                try clear p6
                try clear q3
                try clear q35
                obtain ⟨kq, x195_39, rfl, HA, HJ39, HB⟩ := hcut
                cases kq with
                | zero => exact absurd HA.out (by simp [laws_FnSums.j4])
                | succ kj39 =>
                  have H := HA.out
                  clear HA
                  simp only [laws_FnSums.j4] at H
                  by_cases c45 : x195_39 = true
                  · subst c45
                    have H1 : (none) = some r := by rw [if_pos rfl] at H; exact H
                    clear H
                    have H := H1
                    clear H1
                    exact absurd H (by simp)
                  · replace c45 := Bool.eq_false_iff.mpr c45
                    subst c45
                    have H1 : (if t224 = true then ((impl_SumOf.f kj39 t221).bind fun bt227 => ((impl_SumOf.f kj39 t223).bind fun bt230 => (if bt227.2.2 = true then (if bt230.2.2 = true then (if bt227.1 = bt230.1 then (if 0 ≤ t222 then (if t222 < (t221.size : Int) then (if 0 ≤ (wrap64 (t222 + 1)) then (if (wrap64 (t222 + 1)) < (t221.size : Int) then (laws_FnSums.j5 kj39 l1 ((bt227.2.1 == bt230.2.1) != ((Int.tmod (wrap64 (bt t221 t222)) 255) == (Int.tmod (wrap64 (bt t221 (wrap64 (t222 + 1)))) 255)))) else (none)) else (none)) else (none)) else (none)) else (none)) else (none)) else (none)))) else (laws_FnSums.j6 kj39 l1)) = some r := by rw [if_neg (show ¬ (false = true) by decide)] at H; exact H
                    clear H
                    have H := H1
                    clear H1
                    have HC46 := Aside0.mk H
                    clear H
                    go_upto_if 196 with (fail)
                    repeat (go_quiet (fail); go_upto_if 196 with (fail))
                    go_cut [] (fun wc => ∃ (kq : Nat), Aside0 (laws_FnSums.j6 kq l1 = some r) ∧ Aside0 (kq ≤ kj39) ∧ Aside0 (Below w.heap.size w wc))
                    case first =>
                      have H := HC46.out
                      clear HC46
                      by_cases c47 : t224 = true
                      · subst c47
                        have H1 : ((impl_SumOf.f kj39 t221).bind fun bt227 => ((impl_SumOf.f kj39 t223).bind fun bt230 => (if bt227.2.2 = true then (if bt230.2.2 = true then (if bt227.1 = bt230.1 then (if 0 ≤ t222 then (if t222 < (t221.size : Int) then (if 0 ≤ (wrap64 (t222 + 1)) then (if (wrap64 (t222 + 1)) < (t221.size : Int) then (laws_FnSums.j5 kj39 l1 ((bt227.2.1 == bt230.2.1) != ((Int.tmod (wrap64 (bt t221 t222)) 255) == (Int.tmod (wrap64 (bt t221 (wrap64 (t222 + 1)))) 255)))) else (none)) else (none)) else (none)) else (none)) else (none)) else (none)) else (none)))) = some r := by rw [if_pos rfl] at H; exact H
                        clear H
                        have H := H1
                        clear H1
                        replace H := Option.bind_eq_some_iff.mp H
                        obtain ⟨⟨t227, t228, t229⟩, A480, H⟩ := H
                        replace H : ((impl_SumOf.f kj39 t223).bind fun bt230 => (if t229 = true then (if bt230.2.2 = true then (if t227 = bt230.1 then (if 0 ≤ t222 then (if t222 < (t221.size : Int) then (if 0 ≤ (wrap64 (t222 + 1)) then (if (wrap64 (t222 + 1)) < (t221.size : Int) then (laws_FnSums.j5 kj39 l1 ((t228 == bt230.2.1) != ((Int.tmod (wrap64 (bt t221 t222)) 255) == (Int.tmod (wrap64 (bt t221 (wrap64 (t222 + 1)))) 255)))) else (none)) else (none)) else (none)) else (none)) else (none)) else (none)) else (none))) = some r := H
                        have A48 := Aside0.mk A480
                        clear A480
                        replace H := Option.bind_eq_some_iff.mp H
                        obtain ⟨⟨t230, t231, t232⟩, A490, H⟩ := H
                        replace H : (if t229 = true then (if t232 = true then (if t227 = t230 then (if 0 ≤ t222 then (if t222 < (t221.size : Int) then (if 0 ≤ (wrap64 (t222 + 1)) then (if (wrap64 (t222 + 1)) < (t221.size : Int) then (laws_FnSums.j5 kj39 l1 ((t228 == t231) != ((Int.tmod (wrap64 (bt t221 t222)) 255) == (Int.tmod (wrap64 (bt t221 (wrap64 (t222 + 1)))) 255)))) else (none)) else (none)) else (none)) else (none)) else (none)) else (none)) else (none)) = some r := H
                        have A49 := Aside0.mk A490
                        clear A490
                        have HC50 := Aside0.mk H
                        clear H
                        go_upto_region 34 with (first | (go_at_call 20; (with_reducible refine (impl_SumOf.calls kj39 t221 t227 t228 t229 _ A48.out).mono ?_); rintro e w' ⟨rfl, ⟨nd, rfl⟩⟩; (try first | exact ⟨rfl, _, World.drewN_drewN _ _ _⟩ | exact ⟨rfl, _, Eq.trans (World.drewN_drewN _ _ _) (congrArg (World.drewN _) (Nat.add_assoc _ _ _))⟩)) | (go_at_call 20; (with_reducible refine (impl_SumOf.calls kj39 t223 t230 t231 t232 _ A49.out).mono ?_); rintro e w' ⟨rfl, ⟨nd, rfl⟩⟩; (try first | exact ⟨rfl, _, World.drewN_drewN _ _ _⟩ | exact ⟨rfl, _, Eq.trans (World.drewN_drewN _ _ _) (congrArg (World.drewN _) (Nat.add_assoc _ _ _))⟩)))
                        repeat (go_quiet (first | (go_at_call 20; (with_reducible refine (impl_SumOf.calls kj39 t221 t227 t228 t229 _ A48.out).mono ?_); rintro e w' ⟨rfl, ⟨nd, rfl⟩⟩; (try first | exact ⟨rfl, _, World.drewN_drewN _ _ _⟩ | exact ⟨rfl, _, Eq.trans (World.drewN_drewN _ _ _) (congrArg (World.drewN _) (Nat.add_assoc _ _ _))⟩)) | (go_at_call 20; (with_reducible refine (impl_SumOf.calls kj39 t223 t230 t231 t232 _ A49.out).mono ?_); rintro e w' ⟨rfl, ⟨nd, rfl⟩⟩; (try first | exact ⟨rfl, _, World.drewN_drewN _ _ _⟩ | exact ⟨rfl, _, Eq.trans (World.drewN_drewN _ _ _) (congrArg (World.drewN _) (Nat.add_assoc _ _ _))⟩))); go_upto_region 34 with (first | (go_at_call 20; (with_reducible refine (impl_SumOf.calls kj39 t221 t227 t228 t229 _ A48.out).mono ?_); rintro e w' ⟨rfl, ⟨nd, rfl⟩⟩; (try first | exact ⟨rfl, _, World.drewN_drewN _ _ _⟩ | exact ⟨rfl, _, Eq.trans (World.drewN_drewN _ _ _) (congrArg (World.drewN _) (Nat.add_assoc _ _ _))⟩)) | (go_at_call 20; (with_reducible refine (impl_SumOf.calls kj39 t223 t230 t231 t232 _ A49.out).mono ?_); rintro e w' ⟨rfl, ⟨nd, rfl⟩⟩; (try first | exact ⟨rfl, _, World.drewN_drewN _ _ _⟩ | exact ⟨rfl, _, Eq.trans (World.drewN_drewN _ _ _) (congrArg (World.drewN _) (Nat.add_assoc _ _ _))⟩))))
                        (try simp only [Act.put, List.setIfInBounds_toArray, List.set_cons_zero, List.set_cons_succ])
                        go_cut [237] (fun v237 wc => ∃ (kq : Nat) (x237_49 : Bool), v237 = .bool x237_49 ∧ Aside0 (laws_FnSums.j5 kq l1 x237_49 = some r) ∧ Aside0 (kq ≤ kj39) ∧ Aside0 (Below w.heap.size w wc))
                        case first =>
                          have H := HC50.out
                          clear HC50
                          by_cases c51 : t229 = true
                          · subst c51
                            have H1 : (if t232 = true then (if t227 = t230 then (if 0 ≤ t222 then (if t222 < (t221.size : Int) then (if 0 ≤ (wrap64 (t222 + 1)) then (if (wrap64 (t222 + 1)) < (t221.size : Int) then (laws_FnSums.j5 kj39 l1 ((t228 == t231) != ((Int.tmod (wrap64 (bt t221 t222)) 255) == (Int.tmod (wrap64 (bt t221 (wrap64 (t222 + 1)))) 255)))) else (none)) else (none)) else (none)) else (none)) else (none)) else (none)) = some r := by rw [if_pos rfl] at H; exact H
                            clear H
                            have H := H1
                            clear H1
                            by_cases c52 : t232 = true
                            · subst c52
                              have H1 : (if t227 = t230 then (if 0 ≤ t222 then (if t222 < (t221.size : Int) then (if 0 ≤ (wrap64 (t222 + 1)) then (if (wrap64 (t222 + 1)) < (t221.size : Int) then (laws_FnSums.j5 kj39 l1 ((t228 == t231) != ((Int.tmod (wrap64 (bt t221 t222)) 255) == (Int.tmod (wrap64 (bt t221 (wrap64 (t222 + 1)))) 255)))) else (none)) else (none)) else (none)) else (none)) else (none)) = some r := by rw [if_pos rfl] at H; exact H
                              clear H
                              have H := H1
                              clear H1
                              by_cases c53 : t227 = t230
                              · rw [if_pos c53] at H
                                have c53b0 : (t227 == t230) = true := beq_iff_eq.mpr c53
                                have c53b1 : (t227 != t230) = false := bne_eq_false_iff_eq.mpr c53
                                clear c53
                                (first | rw [c53b0] | (simp only [i64_w, i32_w]; rw [c53b0]) | skip)
                                by_cases c54 : 0 ≤ t222
                                · rw [if_pos c54] at H
                                  have c54b0 : decide (0 ≤ t222) = true := decide_eq_true c54
                                  clear c54
                                  by_cases c55 : t222 < (t221.size : Int)
                                  · rw [if_pos c55] at H
                                    have c55b0 : decide (t222 < (t221.size : Int)) = true := decide_eq_true c55
                                    clear c55
                                    obtain ⟨ji57, hji57⟩ : ∃ j_ : Int, (wrap64 (t222 + 1)) = j_ := ⟨_, rfl⟩
                                    replace H : (if 0 ≤ (ji57) then (if (ji57) < (t221.size : Int) then (laws_FnSums.j5 kj39 l1 ((t228 == t231) != ((Int.tmod (wrap64 (bt t221 t222)) 255) == (Int.tmod (wrap64 (bt t221 (ji57))) 255)))) else (none)) else (none)) = some r := by first | (rw [hji57] at H; exact H) | (simp only [hji57] at H ⊢; exact H)
                                    have hji57w : (IntKind.i64.wrap (t222 + 1)) = ji57 := (i64_w _).trans hji57
                                    by_cases c58 : 0 ≤ (ji57)
                                    · rw [if_pos c58] at H
                                      have c58b0 : decide (0 ≤ (ji57)) = true := decide_eq_true c58
                                      clear c58
                                      by_cases c59 : (ji57) < (t221.size : Int)
                                      · rw [if_pos c59] at H
                                        have c59b0 : decide ((ji57) < (t221.size : Int)) = true := decide_eq_true c59
                                        clear c59
                                        as_aux_lemma =>
                                          have H' := Aside0.mk H
                                          clear H
                                          have p56 : 0 ≤ (t222 : Int) := of_decide_eq_true (by first | (with_reducible assumption) | assumption)
                                          have q56 : t222 < (t221.size : Int) := of_decide_eq_true (by first | (with_reducible assumption) | assumption)
                                          have hx56 := bt_at t221 t222
                                          replace p56 := eq_true p56
                                          replace q56 := eq_true q56
                                          have p60 : 0 ≤ ((ji57) : Int) := of_decide_eq_true (by first | (with_reducible assumption) | assumption)
                                          have q60 : (ji57) < (t221.size : Int) := of_decide_eq_true (by first | (with_reducible assumption) | assumption)
                                          have hx60 := bt_at t221 (ji57)
                                          replace p60 := eq_true p60
                                          replace q60 := eq_true q60
                                          go_wp2
                                          repeat (go_quiet (fail); try go_wp2)
                                          go_meet
                                          case rel => exact ⟨_, (((t228 == t231) != ((Int.tmod (wrap64 (bt t221 t222)) 255) == (Int.tmod (wrap64 (bt t221 (ji57))) 255)))), (by first | rfl | (simp; done) | (simp only [← hji57] <;> (first | rfl | simp)) | (simp [*]; done)), H', ⟨by have := HJ6.out; have := HJ11.out; have := HJ39.out; first | omega | exact Nat.le_refl _⟩, ⟨by repeat (first | (with_reducible first | exact HB.out | apply below_alloc | apply pw_below_drewN | apply below_drew1) | exact HB.out)⟩⟩
                                      · rw [if_neg c59] at H
                                        exact absurd H (by simp)
                                    · rw [if_neg c58] at H
                                      exact absurd H (by simp)
                                  · rw [if_neg c55] at H
                                    exact absurd H (by simp)
                                · rw [if_neg c54] at H
                                  exact absurd H (by simp)
                              · rw [if_neg c53] at H
                                exact absurd H (by simp)
                            · replace c52 := Bool.eq_false_iff.mpr c52
                              subst c52
                              have H1 : (none) = some r := by rw [if_neg (show ¬ (false = true) by decide)] at H; exact H
                              clear H
                              have H := H1
                              clear H1
                              exact absurd H (by simp)
                          · replace c51 := Bool.eq_false_iff.mpr c51
                            subst c51
                            have H1 : (none) = some r := by rw [if_neg (show ¬ (false = true) by decide)] at H; exact H
                            clear H
                            have H := H1
                            clear H1
                            exact absurd H (by simp)
                        case rest =>
                          clear HC50
                          try clear c1
                          try clear c2
                          try clear p2
                          try clear c3
                          try clear c3b0
                          try clear p3
                          try clear q3
                          try clear hx3
                          try clear c4
                          try clear c5
                          try clear p5
                          try clear q5
                          try clear hx5
                          try clear p6
                          try clear q6
                          try clear hx6
                          try clear c9
                          try clear c9b0
                          try clear c9b1
                          try clear c9b2
                          try clear c10
                          try clear c10b0
                          try clear c10b1
                          try clear c11
                          try clear c12
                          try clear c13
                          try clear c15
                          try clear c15b0
                          try clear c15b1
                          try clear c17
                          try clear c17b0
                          try clear c17b1
                          try clear c18
                          try clear c18b0
                          try clear c18b1
                          try clear c20
                          try clear c20b0
                          try clear c21
                          try clear c21b0
                          try clear c25
                          try clear c26
                          try clear c27
                          try clear c28
                          try clear c28b0
                          try clear c28b1
                          try clear c29
                          try clear c30
                          try clear c30b0
                          try clear c32
                          try clear c33
                          try clear c33b0
                          try clear c34
                          try clear c34b0
                          try clear p35
                          try clear q35
                          try clear hx35
                          try clear c36
                          try clear c36b0
                          try clear c36b1
                          try clear c44
                          try clear c44b0
                          try clear c44b1
                          try clear c44b2
                          try clear c45
                          try clear c47
                          try clear c51
                          try clear c52
                          try clear c53
                          try clear c53b0
                          try clear c53b1
                          try clear c54
                          try clear c54b0
                          try clear c55
                          try clear c55b0
                          try clear p56
                          try clear q56
                          try clear hx56
                          try clear c58
                          try clear c58b0
                          try clear c59
                          try clear c59b0
                          try clear p60
                          try clear q60
                          try clear hx60
                          try clear p2
                          try clear p3
                          try clear p35
                          try clear p56
                          try clear p6
                          try clear p60
                          try clear q3
                          try clear q35
                          try clear q56
                          try clear q60
                          obtain ⟨kq, x237_49, rfl, HA, HJ49, HB⟩ := hcut
                          cases kq with
                          | zero => exact absurd HA.out (by simp [laws_FnSums.j5])
                          | succ kj49 =>
                            have H := HA.out
                            clear HA
                            simp only [laws_FnSums.j5] at H
                            by_cases c61 : x237_49 = true
                            · subst c61
                              have H1 : (none) = some r := by rw [if_pos rfl] at H; exact H
                              clear H
                              have H := H1
                              clear H1
                              exact absurd H (by simp)
                            · replace c61 := Bool.eq_false_iff.mpr c61
                              subst c61
                              have H1 : (laws_FnSums.j6 kj49 l1) = some r := by rw [if_neg (show ¬ (false = true) by decide)] at H; exact H
                              clear H
                              have H := H1
                              clear H1
                              as_aux_lemma =>
                                have H' := Aside0.mk H
                                clear H
                                go_wp2
                                repeat (go_quiet (fail); try go_wp2)
                                go_meet
                                case rel => exact ⟨_, H', ⟨by have := HJ6.out; have := HJ11.out; have := HJ39.out; have := HJ49.out; first | omega | exact Nat.le_refl _⟩, ⟨by repeat (first | (with_reducible first | exact HB.out | apply below_alloc | apply pw_below_drewN | apply below_drew1) | exact HB.out)⟩⟩
                      · replace c47 := Bool.eq_false_iff.mpr c47
                        subst c47
                        have H1 : (laws_FnSums.j6 kj39 l1) = some r := by rw [if_neg (show ¬ (false = true) by decide)] at H; exact H
                        clear H
                        have H := H1
                        clear H1
                        as_aux_lemma =>
                          have H' := Aside0.mk H
                          clear H
                          go_wp2
                          repeat (go_quiet (fail); try go_wp2)
                          go_meet
                          case rel => exact ⟨_, H', ⟨by have := HJ6.out; have := HJ11.out; have := HJ39.out; first | omega | exact Nat.le_refl _⟩, ⟨by repeat (first | (with_reducible first | exact HB.out | apply below_alloc | apply pw_below_drewN | apply below_drew1) | exact HB.out)⟩⟩
                    case rest =>
                      clear HC46
                      try clear c1
                      try clear c2
                      try clear p2
                      try clear c3
                      try clear c3b0
                      try clear p3
                      try clear q3
                      try clear hx3
                      try clear c4
                      try clear c5
                      try clear p5
                      try clear q5
                      try clear hx5
                      try clear c6
                      try clear p6
                      try clear q6
                      try clear hx6
                      try clear c9
                      try clear c9b0
                      try clear c9b1
                      try clear c9b2
                      try clear c10
                      try clear c10b0
                      try clear c10b1
                      try clear c11
                      try clear c12
                      try clear c13
                      try clear c15
                      try clear c15b0
                      try clear c15b1
                      try clear c17
                      try clear c17b0
                      try clear c17b1
                      try clear c18
                      try clear c18b0
                      try clear c18b1
                      try clear c20
                      try clear c20b0
                      try clear c21
                      try clear c21b0
                      try clear c25
                      try clear c26
                      try clear c27
                      try clear c28
                      try clear c28b0
                      try clear c28b1
                      try clear c29
                      try clear c30
                      try clear c30b0
                      try clear c32
                      try clear c33
                      try clear c33b0
                      try clear c34
                      try clear c34b0
                      try clear p35
                      try clear q35
                      try clear hx35
                      try clear c36
                      try clear c36b0
                      try clear c36b1
                      try clear c44
                      try clear c44b0
                      try clear c44b1
                      try clear c44b2
                      try clear c45
                      try clear c47
                      try clear c51
                      try clear c52
                      try clear c53
                      try clear c53b0
                      try clear c53b1
                      try clear c54
                      try clear c54b0
                      try clear c55
                      try clear c55b0
                      try clear p56
                      try clear q56
                      try clear hx56
                      try clear c58
                      try clear c58b0
                      try clear c59
                      try clear c59b0
                      try clear p60
                      try clear q60
                      try clear hx60
                      try clear c61
                      try clear p2
                      try clear p3
                      try clear p35
                      try clear p5
                      try clear p56
                      try clear p6
                      try clear p60
                      try clear q3
                      try clear q35
                      try clear q5
                      try clear q56
                      try clear q6
                      try clear q60
                      obtain ⟨kq, HA, HJ45, HB⟩ := hcut
                      cases kq with
                      | zero => exact absurd HA.out (by simp [laws_FnSums.j6])
                      | succ kj45 =>
                        have H := HA.out
                        clear HA
                        simp only [laws_FnSums.j6] at H
                        replace H := Option.bind_eq_some_iff.mp H
                        obtain ⟨⟨t233, t234, t235, t236, t237⟩, A620, H⟩ := H
                        replace H : ((impl_AddSums.f t233 t234 t235 t236 t237).bind fun bt238 => ((spec_AddSums.f kj45 t233 t234 t235 t236 t237).bind fun bt241 => ((spec_DrawWeightAt.f kj45 l1).bind fun bt244 => ((impl_WeightAt.f bt244.1 bt244.2).bind fun bt246 => ((spec_WeightAt.f bt244.1 bt244.2).bind fun bt248 => (if (bt238.2.2 == bt241.2.2) = true then (if bt238.1 = bt241.1 then (if bt238.2.1 = bt241.2.1 then (if (bt246.2 == bt248.2) = true then (some (bt246.1 == bt248.1)) else (none)) else (none)) else (none)) else (none))))))) = some r := H
                        have A62 := Aside0.mk A620
                        clear A620
                        replace H := Option.bind_eq_some_iff.mp H
                        obtain ⟨⟨t238, t239, t240⟩, A630, H⟩ := H
                        replace H : ((spec_AddSums.f kj45 t233 t234 t235 t236 t237).bind fun bt241 => ((spec_DrawWeightAt.f kj45 l1).bind fun bt244 => ((impl_WeightAt.f bt244.1 bt244.2).bind fun bt246 => ((spec_WeightAt.f bt244.1 bt244.2).bind fun bt248 => (if (t240 == bt241.2.2) = true then (if t238 = bt241.1 then (if t239 = bt241.2.1 then (if (bt246.2 == bt248.2) = true then (some (bt246.1 == bt248.1)) else (none)) else (none)) else (none)) else (none)))))) = some r := H
                        have A63 := Aside0.mk A630
                        clear A630
                        replace H := Option.bind_eq_some_iff.mp H
                        obtain ⟨⟨t241, t242, t243⟩, A640, H⟩ := H
                        replace H : ((spec_DrawWeightAt.f kj45 l1).bind fun bt244 => ((impl_WeightAt.f bt244.1 bt244.2).bind fun bt246 => ((spec_WeightAt.f bt244.1 bt244.2).bind fun bt248 => (if (t240 == t243) = true then (if t238 = t241 then (if t239 = t242 then (if (bt246.2 == bt248.2) = true then (some (bt246.1 == bt248.1)) else (none)) else (none)) else (none)) else (none))))) = some r := H
                        have A64 := Aside0.mk A640
                        clear A640
                        replace H := Option.bind_eq_some_iff.mp H
                        obtain ⟨⟨t244, t245⟩, A650, H⟩ := H
                        replace H : ((impl_WeightAt.f t244 t245).bind fun bt246 => ((spec_WeightAt.f t244 t245).bind fun bt248 => (if (t240 == t243) = true then (if t238 = t241 then (if t239 = t242 then (if (bt246.2 == bt248.2) = true then (some (bt246.1 == bt248.1)) else (none)) else (none)) else (none)) else (none)))) = some r := H
                        have A65 := Aside0.mk A650
                        clear A650
                        replace H := Option.bind_eq_some_iff.mp H
                        obtain ⟨⟨t246, t247⟩, A660, H⟩ := H
                        replace H : ((spec_WeightAt.f t244 t245).bind fun bt248 => (if (t240 == t243) = true then (if t238 = t241 then (if t239 = t242 then (if (t247 == bt248.2) = true then (some (t246 == bt248.1)) else (none)) else (none)) else (none)) else (none))) = some r := H
                        have A66 := Aside0.mk A660
                        clear A660
                        replace H := Option.bind_eq_some_iff.mp H
                        obtain ⟨⟨t248, t249⟩, A670, H⟩ := H
                        replace H : (if (t240 == t243) = true then (if t238 = t241 then (if t239 = t242 then (if (t247 == t249) = true then (some (t246 == t248)) else (none)) else (none)) else (none)) else (none)) = some r := H
                        have A67 := Aside0.mk A670
                        clear A670
                        by_cases c68 : (t240 == t243) = true
                        · rw [if_pos c68] at H
                          have c68b0 : (t240 == t243) = true := c68
                          (try (have c68b1 : decide (t240 = t243) = true := by simpa using c68))
                          (try (have c68b2 : (t240 == t243) = true := by simpa using c68))
                          clear c68
                          by_cases c69 : t238 = t241
                          · rw [if_pos c69] at H
                            have c69b0 : (t238 == t241) = true := beq_iff_eq.mpr c69
                            have c69b1 : (t238 != t241) = false := bne_eq_false_iff_eq.mpr c69
                            clear c69
                            by_cases c70 : t239 = t242
                            · rw [if_pos c70] at H
                              have c70b0 : (t239 == t242) = true := beq_iff_eq.mpr c70
                              have c70b1 : (t239 != t242) = false := bne_eq_false_iff_eq.mpr c70
                              clear c70
                              by_cases c71 : (t247 == t249) = true
                              · rw [if_pos c71] at H
                                have c71b0 : (t247 == t249) = true := c71
                                (try (have c71b1 : decide (t247 = t249) = true := by simpa using c71))
                                (try (have c71b2 : (t247 == t249) = true := by simpa using c71))
                                clear c71
                                as_aux_lemma =>
                                  obtain rfl := Option.some.inj H
                                  go_wp2_with (first | (go_at_call 33; (with_reducible refine (spec_DrawAddSums.calls _ _ l1 t233 t234 t235 t236 t237 _ ?side1 ?side2 A62.out).mono ?_); (case side1 => repeat (first | exact (Kd.C_below HR1.out HB.out) | (with_reducible refine Kd.C_alloc ?_ _) | (with_reducible refine Kd.C_drewN ?_ _) | (with_reducible refine Kd.C_drew ?_))); (case side2 => exact HC1.out); rintro e w72 ⟨rfl, hb⟩; have n0_ := Aside0.mk (below_step (by repeat (first | (with_reducible first | exact HB.out | apply below_alloc | apply pw_below_drewN | apply below_drew1) | exact HB.out)) hb); clear HB; have HB := n0_; clear n0_; (try clear hb); (try clear hb2); (try clear hk); (try clear hi)) | (go_at_call 16; (with_reducible refine (impl_AddSums.calls t233 t234 t235 t236 t237 t238 t239 t240 _ A63.out).mono ?_); rintro e w' ⟨rfl, ⟨nd, rfl⟩⟩; (try first | exact ⟨rfl, _, World.drewN_drewN _ _ _⟩ | exact ⟨rfl, _, Eq.trans (World.drewN_drewN _ _ _) (congrArg (World.drewN _) (Nat.add_assoc _ _ _))⟩)) | (go_at_call 15; (with_reducible refine (spec_AddSums.calls kj45 t233 t234 t235 t236 t237 t241 t242 t243 _ A64.out).mono ?_); rintro e w73 ⟨rfl, hb⟩; have n0_ := Aside0.mk (below_step (by repeat (first | (with_reducible first | exact HB.out | apply below_alloc | apply pw_below_drewN | apply below_drew1) | exact HB.out)) hb); clear HB; have HB := n0_; clear n0_; (try clear hb); (try clear hb2); (try clear hk); (try clear hi)) | (go_at_call 34; (with_reducible refine (spec_DrawWeightAt.calls kj45 _ _ l1 t244 t245 _ ?side1 ?side2 A65.out).mono ?_); (case side1 => repeat (first | exact (Kd.C_below HR1.out HB.out) | (with_reducible refine Kd.C_alloc ?_ _) | (with_reducible refine Kd.C_drewN ?_ _) | (with_reducible refine Kd.C_drew ?_))); (case side2 => exact HC1.out); rintro e w74 ⟨rfl, hb⟩; have n0_ := Aside0.mk (below_step (by repeat (first | (with_reducible first | exact HB.out | apply below_alloc | apply pw_below_drewN | apply below_drew1) | exact HB.out)) hb); clear HB; have HB := n0_; clear n0_; (try clear hb); (try clear hb2); (try clear hk); (try clear hi)) | (go_at_call 14; (with_reducible refine (impl_WeightAt.calls t244 t245 t246 t247 _ A66.out).mono ?_); rintro e w' ⟨rfl, ⟨nd, rfl⟩⟩; (try first | exact ⟨rfl, _, World.drewN_drewN _ _ _⟩ | exact ⟨rfl, _, Eq.trans (World.drewN_drewN _ _ _) (congrArg (World.drewN _) (Nat.add_assoc _ _ _))⟩)) | (go_at_call 13; (with_reducible refine (spec_WeightAt.calls t244 t245 t248 t249 _ A67.out).mono ?_); rintro e w' ⟨rfl, ⟨nd, rfl⟩⟩; (try first | exact ⟨rfl, _, World.drewN_drewN _ _ _⟩ | exact ⟨rfl, _, Eq.trans (World.drewN_drewN _ _ _) (congrArg (World.drewN _) (Nat.add_assoc _ _ _))⟩)))
                                  repeat (go_quiet (first | (go_at_call 33; (with_reducible refine (spec_DrawAddSums.calls _ _ l1 t233 t234 t235 t236 t237 _ ?side1 ?side2 A62.out).mono ?_); (case side1 => repeat (first | exact (Kd.C_below HR1.out HB.out) | (with_reducible refine Kd.C_alloc ?_ _) | (with_reducible refine Kd.C_drewN ?_ _) | (with_reducible refine Kd.C_drew ?_))); (case side2 => exact HC1.out); rintro e w72 ⟨rfl, hb⟩; clear A62; clear A62; have n0_ := Aside0.mk (below_step (by repeat (first | (with_reducible first | exact HB.out | apply below_alloc | apply pw_below_drewN | apply below_drew1) | exact HB.out)) hb); clear HB; have HB := n0_; clear n0_; (try clear hb); (try clear hb2); (try clear hk); (try clear hi)) | (go_at_call 16; (with_reducible refine (impl_AddSums.calls t233 t234 t235 t236 t237 t238 t239 t240 _ A63.out).mono ?_); rintro e w' ⟨rfl, ⟨nd, rfl⟩⟩; (try first | exact ⟨rfl, _, World.drewN_drewN _ _ _⟩ | exact ⟨rfl, _, Eq.trans (World.drewN_drewN _ _ _) (congrArg (World.drewN _) (Nat.add_assoc _ _ _))⟩)) | (go_at_call 15; (with_reducible refine (spec_AddSums.calls kj45 t233 t234 t235 t236 t237 t241 t242 t243 _ A64.out).mono ?_); rintro e w73 ⟨rfl, hb⟩; clear A64; clear A64; have n0_ := Aside0.mk (below_step (by repeat (first | (with_reducible first | exact HB.out | apply below_alloc | apply pw_below_drewN | apply below_drew1) | exact HB.out)) hb); clear HB; have HB := n0_; clear n0_; (try clear hb); (try clear hb2); (try clear hk); (try clear hi)) | (go_at_call 34; (with_reducible refine (spec_DrawWeightAt.calls kj45 _ _ l1 t244 t245 _ ?side1 ?side2 A65.out).mono ?_); (case side1 => repeat (first | exact (Kd.C_below HR1.out HB.out) | (with_reducible refine Kd.C_alloc ?_ _) | (with_reducible refine Kd.C_drewN ?_ _) | (with_reducible refine Kd.C_drew ?_))); (case side2 => exact HC1.out); rintro e w74 ⟨rfl, hb⟩; clear A65; clear A65; have n0_ := Aside0.mk (below_step (by repeat (first | (with_reducible first | exact HB.out | apply below_alloc | apply pw_below_drewN | apply below_drew1) | exact HB.out)) hb); clear HB; have HB := n0_; clear n0_; (try clear hb); (try clear hb2); (try clear hk); (try clear hi)) | (go_at_call 14; (with_reducible refine (impl_WeightAt.calls t244 t245 t246 t247 _ A66.out).mono ?_); rintro e w' ⟨rfl, ⟨nd, rfl⟩⟩; (try first | exact ⟨rfl, _, World.drewN_drewN _ _ _⟩ | exact ⟨rfl, _, Eq.trans (World.drewN_drewN _ _ _) (congrArg (World.drewN _) (Nat.add_assoc _ _ _))⟩)) | (go_at_call 13; (with_reducible refine (spec_WeightAt.calls t244 t245 t248 t249 _ A67.out).mono ?_); rintro e w' ⟨rfl, ⟨nd, rfl⟩⟩; (try first | exact ⟨rfl, _, World.drewN_drewN _ _ _⟩ | exact ⟨rfl, _, Eq.trans (World.drewN_drewN _ _ _) (congrArg (World.drewN _) (Nat.add_assoc _ _ _))⟩))); try go_wp2_with (first | (go_at_call 33; (with_reducible refine (spec_DrawAddSums.calls _ _ l1 t233 t234 t235 t236 t237 _ ?side1 ?side2 A62.out).mono ?_); (case side1 => repeat (first | exact (Kd.C_below HR1.out HB.out) | (with_reducible refine Kd.C_alloc ?_ _) | (with_reducible refine Kd.C_drewN ?_ _) | (with_reducible refine Kd.C_drew ?_))); (case side2 => exact HC1.out); rintro e w72 ⟨rfl, hb⟩; clear A62; clear A62; have n0_ := Aside0.mk (below_step (by repeat (first | (with_reducible first | exact HB.out | apply below_alloc | apply pw_below_drewN | apply below_drew1) | exact HB.out)) hb); clear HB; have HB := n0_; clear n0_; (try clear hb); (try clear hb2); (try clear hk); (try clear hi)) | (go_at_call 16; (with_reducible refine (impl_AddSums.calls t233 t234 t235 t236 t237 t238 t239 t240 _ A63.out).mono ?_); rintro e w' ⟨rfl, ⟨nd, rfl⟩⟩; (try first | exact ⟨rfl, _, World.drewN_drewN _ _ _⟩ | exact ⟨rfl, _, Eq.trans (World.drewN_drewN _ _ _) (congrArg (World.drewN _) (Nat.add_assoc _ _ _))⟩)) | (go_at_call 15; (with_reducible refine (spec_AddSums.calls kj45 t233 t234 t235 t236 t237 t241 t242 t243 _ A64.out).mono ?_); rintro e w73 ⟨rfl, hb⟩; clear A64; clear A64; have n0_ := Aside0.mk (below_step (by repeat (first | (with_reducible first | exact HB.out | apply below_alloc | apply pw_below_drewN | apply below_drew1) | exact HB.out)) hb); clear HB; have HB := n0_; clear n0_; (try clear hb); (try clear hb2); (try clear hk); (try clear hi)) | (go_at_call 34; (with_reducible refine (spec_DrawWeightAt.calls kj45 _ _ l1 t244 t245 _ ?side1 ?side2 A65.out).mono ?_); (case side1 => repeat (first | exact (Kd.C_below HR1.out HB.out) | (with_reducible refine Kd.C_alloc ?_ _) | (with_reducible refine Kd.C_drewN ?_ _) | (with_reducible refine Kd.C_drew ?_))); (case side2 => exact HC1.out); rintro e w74 ⟨rfl, hb⟩; clear A65; clear A65; have n0_ := Aside0.mk (below_step (by repeat (first | (with_reducible first | exact HB.out | apply below_alloc | apply pw_below_drewN | apply below_drew1) | exact HB.out)) hb); clear HB; have HB := n0_; clear n0_; (try clear hb); (try clear hb2); (try clear hk); (try clear hi)) | (go_at_call 14; (with_reducible refine (impl_WeightAt.calls t244 t245 t246 t247 _ A66.out).mono ?_); rintro e w' ⟨rfl, ⟨nd, rfl⟩⟩; (try first | exact ⟨rfl, _, World.drewN_drewN _ _ _⟩ | exact ⟨rfl, _, Eq.trans (World.drewN_drewN _ _ _) (congrArg (World.drewN _) (Nat.add_assoc _ _ _))⟩)) | (go_at_call 13; (with_reducible refine (spec_WeightAt.calls t244 t245 t248 t249 _ A67.out).mono ?_); rintro e w' ⟨rfl, ⟨nd, rfl⟩⟩; (try first | exact ⟨rfl, _, World.drewN_drewN _ _ _⟩ | exact ⟨rfl, _, Eq.trans (World.drewN_drewN _ _ _) (congrArg (World.drewN _) (Nat.add_assoc _ _ _))⟩))))
                                  go_ret
                                  exact ⟨by first | rfl | (simp [errW_none, errW_some] <;> rfl) | (simp [*, errW_none, errW_some] <;> rfl), by repeat (first | (with_reducible first | exact HB.out | apply below_alloc | apply pw_below_drewN | apply below_drew1) | exact HB.out)⟩
                              · rw [if_neg c71] at H
                                exact absurd H (by simp)
                            · rw [if_neg c70] at H
                              exact absurd H (by simp)
                          · rw [if_neg c69] at H
                            exact absurd H (by simp)
                        · rw [if_neg c68] at H
                          exact absurd H (by simp)

/-- THE ONE PURE STATEMENT of laws_FnSums: yours. -/
def laws_FnSums.Pure : Prop := ∀ (l0 : List Int) (l1 : List Int), l0.length ≤ maxLen → l0.length * 1 ≤ 140737488351232 → (∀ x ∈ l0, (Lit.int .u8 x).wf = true) → l1.length ≤ maxLen → l1.length * 1 ≤ 140737488351232 → (∀ x ∈ l1, (Lit.int .u8 x).wf = true) → ∃ k, laws_FnSums.f k l0 l1 = some true
theorem laws_FnSums.walk (P : laws_FnSums.Pure) (a0 : Option Addr) (len0 cap0 : Nat) (z0 : List Int) (a1 : Option Addr) (len1 cap1 : Nat) (z1 : List Int) (w : World) (w0 : (a0 = none ∧ len0 = 0 ∧ cap0 = 0 ∧ z0 = []) ∨ ∃ x, a0 = some x ∧ len0 ≤ cap0 ∧ cap0 ≤ maxLen ∧ z0.length = cap0 ∧ (∀ i, i < z0.length → w.cell? (x.add i) = some (.int .u8 (z0.getD i 0))) ∧ ∀ n ∈ z0, (Lit.int .u8 n).wf = true) (y0 : len0 * 1 ≤ 140737488351232) (w1 : (a1 = none ∧ len1 = 0 ∧ cap1 = 0 ∧ z1 = []) ∨ ∃ x, a1 = some x ∧ len1 ≤ cap1 ∧ cap1 ≤ maxLen ∧ z1.length = cap1 ∧ (∀ i, i < z1.length → w.cell? (x.add i) = some (.int .u8 (z1.getD i 0))) ∧ ∀ n ∈ z1, (Lit.int .u8 n).wf = true) (y1 : len1 * 1 ≤ 140737488351232) :
    Calls Try.prog 12 #[.slice a0 len0 cap0, .slice a1 len1 cap1] w fun e w' => e = .returned (.bool true) ∧ Below w.heap.size w w' := by
  obtain ⟨l0, rfl, hr0, hm0, hw0, hc0⟩ := ReadsInt.ofRowC w0
  obtain ⟨l1, rfl, hr1, hm1, hw1, hc1⟩ := ReadsInt.ofRowC w1
  obtain ⟨k, h⟩ := P l0 l1 hm0 y0 hw0 hm1 y1 hw1
  refine (laws_FnSums.calls k _ _ l0 _ _ l1 true w (Kd.C_of_reads (d := (0 : Int)) (h1 := fun _ => rfl) hr0) hc0 (Kd.C_of_reads (d := (0 : Int)) (h1 := fun _ => rfl) hr1) hc1 h).mono ?_
  rintro e w' ⟨rfl, hd⟩
  exact ⟨rfl, hd⟩

end Go.Proofs.Ytmagnbbpbhmacaa.PFnSums
