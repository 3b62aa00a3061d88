-- Written by a program of this project (myprint.py, by way of the kit's printer). Not trusted: Lean checks it.
import Derived.Test.YtgcondmgpcaahaaPFnLeadersx0
import Derived.Test.YtgcondmgpcaahaaPFnLeadersx2
import Derived.Test.YtgcondmgpcaahaaPFnLeadersx3
import Derived.Test.YtgcondmgpcaahaaPFnLeadersx5
import Derived.Test.YtgcondmgpcaahaaPFnLeadersx6
import Derived.Test.YtgcondmgpcaahaaPFnLeadersx9
import Derived.Test.YtgcondmgpcaahaaPFnLeadersx10
namespace Go.Proofs.Ytgcondmgpcaahaa.PFnLeaders
open Go.RowKit Go.Proofs.YtgcondmgpcaahaaW.PrintWords Go.Proofs.YtgcondmgpcaahaaW.PrintLast Go.Proofs.YtgcondmgpcaahaaW.PrintMore
attribute [local go_sem] max2_int min2_int max_two min_two max_three min_three max_four min_four   -- for this text's walks alone
set_option linter.unusedVariables false
set_option linter.unusedSimpArgs false

/-! ### laws_FnLeaders: function 3 -/
mutual
def laws_FnLeaders.j0 : Nat → List Int → List (S35) → Int → Bool → Bool → Option (Bool)
  | 0, _, _, _, _, _ => none
  | k + 1, x1, x5, x11, x12, x93 => if x93 = true then (none) else (if x12 = true then (laws_FnLeaders.l0 k x1 x5 x11 ([] : List Int) (x5.length : Int) 0) else (laws_FnLeaders.j6 k x1))
def laws_FnLeaders.j6 : Nat → List Int → Option (Bool)
  | 0, _ => none
  | k + 1, x1 => (spec_DrawBeats.f k x1).bind fun bt365 => ((impl_Beats.f bt365.1 bt365.2.1 bt365.2.2.1 bt365.2.2.2.1 bt365.2.2.2.2.1 bt365.2.2.2.2.2).bind fun bt373 => ((spec_Beats.f bt365.1 bt365.2.1 bt365.2.2.1 bt365.2.2.2.1 bt365.2.2.2.2.1 bt365.2.2.2.2.2).bind fun bt375 => (if (bt373.2 != bt375.2) = true then (none) else (laws_FnLeaders.j7 k bt373.1 bt373.2 (bt373.1 != bt375.1) bt365.1 bt365.2.1 bt365.2.2.1 bt365.2.2.2.1 bt365.2.2.2.2.1 bt365.2.2.2.2.2))))
def laws_FnLeaders.j7 : Nat → Bool → Bool → Bool → Int → Int → Bool → Int → Int → Bool → Option (Bool)
  | 0, _, _, _, _, _, _, _, _, _ => none
  | k + 1, x29, x30, x196, x372000, x372001, x372002, x373000, x373001, x373002 => if x196 = true then (none) else (if x30 = true then ((impl_Beats.f x373000 x373001 x373002 x372000 x372001 x372002).bind fun bt377 => (if bt377.2 = true then (some (x29 != bt377.1)) else (none))) else (some true))
def laws_FnLeaders.l0 : Nat → List Int → List (S35) → Int → List Int → Int → Int → Option (Bool)
  | 0, _, _, _, _, _, _ => none
  | k + 1, x1, x5, x11, x15, x96, x97 => if x97 < x96 then (if x15.length < 17592186044416 then (laws_FnLeaders.l0 k x1 x5 x11 (x15 ++ [x97]) x96 (wrap64 (x97 + 1))) else (none)) else (laws_FnLeaders.l1 k x1 x5 x11 x15 ([] : List (List Int)) (x5.length : Int) 0)
def laws_FnLeaders.l1 : Nat → List Int → List (S35) → Int → List Int → List (List Int) → Int → Int → Option (Bool)
  | 0, _, _, _, _, _, _, _ => none
  | k + 1, x1, x5, x11, x15, x16, x106, x107 => if x107 < x106 then ((some (([] : List Int) : List Int)).bind fun y343 => (if y343.length + x15.length < 17592186044416 then (if x16.length < 5864062014805 then (laws_FnLeaders.l1 k x1 x5 x11 x15 (x16 ++ [(y343 ++ x15)]) x106 (wrap64 (x107 + 1))) else (none)) else (none))) else ((impl_LeadersBy.f k x5 x16).bind fun bt352 => (if bt352.2 = true then (if 0 < (x5.length : Int) then (laws_FnLeaders.l2 k x1 x5 x11 bt352.1 x5 (x5.length : Int) 0 ((rd_T35 x5 0).f0) ((rd_T35 x5 0).f1) ((rd_T35 x5 0).f2)) else (none)) else (none)))
def laws_FnLeaders.l2 : Nat → List Int → List (S35) → Int → List Int → List (S35) → Int → Int → Int → Int → Bool → Option (Bool)
  | 0, _, _, _, _, _, _, _, _, _, _ => none
  | k + 1, x1, x5, x11, x18, x127, x128, x129, x358000, x358001, x358002 => if x129 < x128 then (if 0 ≤ x129 then (if x129 < (x127.length : Int) then (if ((rd_T35 x127 x129).f0) = x11 then (laws_FnLeaders.l2 k x1 x5 x11 x18 x127 x128 (wrap64 (x129 + 1)) ((rd_T35 x127 x129).f0) ((rd_T35 x127 x129).f1) ((rd_T35 x127 x129).f2)) else (laws_FnLeaders.l2 k x1 x5 x11 x18 x127 x128 (wrap64 (x129 + 1)) x358000 x358001 x358002)) else (none)) else (none)) else (laws_FnLeaders.l3 k x1 x11 x18 x5 (x5.length : Int) 0 x358000 x358001 x358002)
def laws_FnLeaders.l3 : Nat → List Int → Int → List Int → List (S35) → Int → Int → Int → Int → Bool → Option (Bool)
  | 0, _, _, _, _, _, _, _, _, _ => none
  | k + 1, x1, x11, x18, x139, x140, x141, x358000, x358001, x358002 => if x141 < x140 then (if 0 ≤ x141 then (if x141 < (x139.length : Int) then (if x141 < (x18.length : Int) then (if (rd x18 x141) = x11 then (if (rd_T35 x139 x141).f2 = true then (laws_FnLeaders.j5 k x1 x11 x18 x139 x140 x141 (((rd_T35 x139 x141).f0) != x11) x358000 x358001 x358002 ((rd_T35 x139 x141).f0) ((rd_T35 x139 x141).f1) ((rd_T35 x139 x141).f2)) else (laws_FnLeaders.j5 k x1 x11 x18 x139 x140 x141 false x358000 x358001 x358002 ((rd_T35 x139 x141).f0) ((rd_T35 x139 x141).f1) ((rd_T35 x139 x141).f2))) else (none)) else (none)) else (none)) else (none)) else (laws_FnLeaders.j6 k x1)
def laws_FnLeaders.j5 : Nat → List Int → Int → List Int → List (S35) → Int → Int → Bool → Int → Int → Bool → Int → Int → Bool → Option (Bool)
  | 0, _, _, _, _, _, _, _, _, _, _, _, _, _ => none
  | k + 1, x1, x11, x18, x139, x140, x141, x159, x358000, x358001, x358002, x362000, x362001, x362002 => if x159 = true then ((impl_Beats.f x362000 x362001 x362002 x358000 x358001 x358002).bind fun bt363 => (if bt363.2 = true then (if bt363.1 = true then (none) else (laws_FnLeaders.l3 k x1 x11 x18 x139 x140 (wrap64 (x141 + 1)) x358000 x358001 x358002)) else (none))) else (laws_FnLeaders.l3 k x1 x11 x18 x139 x140 (wrap64 (x141 + 1)) x358000 x358001 x358002)
end
def laws_FnLeaders.f (k : Nat) (l0 : List Int) (l1 : List Int) : Option (Bool) := if (wrap64 ((l0.length : Int) + (l1.length : Int))) > 1048576 then (some true) else ((spec_DrawLeadersBy.f k l0).bind fun bt319 => ((impl_LeadersBy.f k bt319.1 bt319.2).bind fun bt325 => ((spec_LeadersBy.f k bt319.1 bt319.2).bind fun bt329 => ((impl_LeaderOf.f k bt319.1).bind fun bt333 => ((spec_LeaderOf.f k bt319.1).bind fun bt335 => (if (bt325.2 != bt329.2) = true then (none) else ((laws_sameInts.f k bt325.1 bt329.1).bind fun t337 => (if t337 = true then (if (bt333.2 != bt335.2) = true then (none) else (if bt333.1 = bt335.1 then ((impl_GoodBridges.f k bt319.1).bind fun t338 => ((spec_GoodBridges.f k bt319.1).bind fun t339 => (laws_FnLeaders.j0 k l1 bt319.1 bt333.1 bt333.2 (t338 != t339)))) else (none))) else (none)))))))))
theorem laws_FnLeaders.mono_l : ∀ k, (∀ y0 y1 y2 y3 y4, LeO (laws_FnLeaders.j0 k y0 y1 y2 y3 y4) (laws_FnLeaders.j0 (k + 1) y0 y1 y2 y3 y4)) ∧ (∀ y0, LeO (laws_FnLeaders.j6 k y0) (laws_FnLeaders.j6 (k + 1) y0)) ∧ (∀ y0 y1 y2 y3 y4 y5 y6 y7 y8, LeO (laws_FnLeaders.j7 k y0 y1 y2 y3 y4 y5 y6 y7 y8) (laws_FnLeaders.j7 (k + 1) y0 y1 y2 y3 y4 y5 y6 y7 y8)) ∧ (∀ y0 y1 y2 y3 y4 y5, LeO (laws_FnLeaders.l0 k y0 y1 y2 y3 y4 y5) (laws_FnLeaders.l0 (k + 1) y0 y1 y2 y3 y4 y5)) ∧ (∀ y0 y1 y2 y3 y4 y5 y6, LeO (laws_FnLeaders.l1 k y0 y1 y2 y3 y4 y5 y6) (laws_FnLeaders.l1 (k + 1) y0 y1 y2 y3 y4 y5 y6)) ∧ (∀ y0 y1 y2 y3 y4 y5 y6 y7 y8 y9, LeO (laws_FnLeaders.l2 k y0 y1 y2 y3 y4 y5 y6 y7 y8 y9) (laws_FnLeaders.l2 (k + 1) y0 y1 y2 y3 y4 y5 y6 y7 y8 y9)) ∧ (∀ y0 y1 y2 y3 y4 y5 y6 y7 y8, LeO (laws_FnLeaders.l3 k y0 y1 y2 y3 y4 y5 y6 y7 y8) (laws_FnLeaders.l3 (k + 1) y0 y1 y2 y3 y4 y5 y6 y7 y8)) ∧ (∀ y0 y1 y2 y3 y4 y5 y6 y7 y8 y9 y10 y11 y12, LeO (laws_FnLeaders.j5 k y0 y1 y2 y3 y4 y5 y6 y7 y8 y9 y10 y11 y12) (laws_FnLeaders.j5 (k + 1) y0 y1 y2 y3 y4 y5 y6 y7 y8 y9 y10 y11 y12))
  | 0 => ⟨fun _ _ _ _ _ r h => by simp [laws_FnLeaders.j0] at h, fun _ r h => by simp [laws_FnLeaders.j6] at h, fun _ _ _ _ _ _ _ _ _ r h => by simp [laws_FnLeaders.j7] at h, fun _ _ _ _ _ _ r h => by simp [laws_FnLeaders.l0] at h, fun _ _ _ _ _ _ _ r h => by simp [laws_FnLeaders.l1] at h, fun _ _ _ _ _ _ _ _ _ _ r h => by simp [laws_FnLeaders.l2] at h, fun _ _ _ _ _ _ _ _ _ r h => by simp [laws_FnLeaders.l3] at h, fun _ _ _ _ _ _ _ _ _ _ _ _ _ r h => by simp [laws_FnLeaders.j5] at h⟩
  | k + 1 => by
    obtain ⟨ih0, ih1, ih2, ih3, ih4, ih5, ih6, ih7⟩ := laws_FnLeaders.mono_l k
    refine ⟨?_, ?_, ?_, ?_, ?_, ?_, ?_, ?_⟩
    · intro y0 y1 y2 y3 y4
      unfold laws_FnLeaders.j0
      repeat' first
      | (with_reducible exact ih0 _ _ _ _ _)
      | (with_reducible exact ih1 _)
      | (with_reducible exact ih2 _ _ _ _ _ _ _ _ _)
      | (with_reducible exact ih3 _ _ _ _ _ _)
      | (with_reducible exact ih4 _ _ _ _ _ _ _)
      | (with_reducible exact ih5 _ _ _ _ _ _ _ _ _ _)
      | (with_reducible exact ih6 _ _ _ _ _ _ _ _ _)
      | (with_reducible exact ih7 _ _ _ _ _ _ _ _ _ _ _ _ _)
      | (with_reducible exact impl_GoodBridges.mono _ _)
      | (with_reducible exact impl_LeaderOf.mono _ _)
      | (with_reducible exact impl_LeadersBy.mono _ _ _)
      | (with_reducible exact laws_sameInts.mono _ _ _)
      | (with_reducible exact spec_DrawBeats.mono _ _)
      | (with_reducible exact spec_DrawLeadersBy.mono _ _)
      | (with_reducible exact spec_GoodBridges.mono _ _)
      | (with_reducible exact spec_LeaderOf.mono _ _)
      | (with_reducible exact spec_LeadersBy.mono _ _ _)
      | (with_reducible exact LeO.refl _)
      | (with_reducible exact LeO.none _)
      | (with_reducible refine LeO.ite ?_ ?_)
      | (with_reducible refine LeO.bind ?_ (fun _ => ?_))
      | exact ih0 _ _ _ _ _
      | exact ih1 _
      | exact ih2 _ _ _ _ _ _ _ _ _
      | exact ih3 _ _ _ _ _ _
      | exact ih4 _ _ _ _ _ _ _
      | exact ih5 _ _ _ _ _ _ _ _ _ _
      | exact ih6 _ _ _ _ _ _ _ _ _
      | exact ih7 _ _ _ _ _ _ _ _ _ _ _ _ _
      | exact impl_GoodBridges.mono _ _
      | exact impl_LeaderOf.mono _ _
      | exact impl_LeadersBy.mono _ _ _
      | exact laws_sameInts.mono _ _ _
      | exact spec_DrawBeats.mono _ _
      | exact spec_DrawLeadersBy.mono _ _
      | exact spec_GoodBridges.mono _ _
      | exact spec_LeaderOf.mono _ _
      | exact spec_LeadersBy.mono _ _ _
      | exact LeO.none _
      | refine LeO.ite ?_ ?_
      | refine LeO.bind ?_ (fun _ => ?_)
    · intro y0
      unfold laws_FnLeaders.j6
      repeat' first
      | (with_reducible exact ih0 _ _ _ _ _)
      | (with_reducible exact ih1 _)
      | (with_reducible exact ih2 _ _ _ _ _ _ _ _ _)
      | (with_reducible exact ih3 _ _ _ _ _ _)
      | (with_reducible exact ih4 _ _ _ _ _ _ _)
      | (with_reducible exact ih5 _ _ _ _ _ _ _ _ _ _)
      | (with_reducible exact ih6 _ _ _ _ _ _ _ _ _)
      | (with_reducible exact ih7 _ _ _ _ _ _ _ _ _ _ _ _ _)
      | (with_reducible exact impl_GoodBridges.mono _ _)
      | (with_reducible exact impl_LeaderOf.mono _ _)
      | (with_reducible exact impl_LeadersBy.mono _ _ _)
      | (with_reducible exact laws_sameInts.mono _ _ _)
      | (with_reducible exact spec_DrawBeats.mono _ _)
      | (with_reducible exact spec_DrawLeadersBy.mono _ _)
      | (with_reducible exact spec_GoodBridges.mono _ _)
      | (with_reducible exact spec_LeaderOf.mono _ _)
      | (with_reducible exact spec_LeadersBy.mono _ _ _)
      | (with_reducible exact LeO.refl _)
      | (with_reducible exact LeO.none _)
      | (with_reducible refine LeO.ite ?_ ?_)
      | (with_reducible refine LeO.bind ?_ (fun _ => ?_))
      | exact ih0 _ _ _ _ _
      | exact ih1 _
      | exact ih2 _ _ _ _ _ _ _ _ _
      | exact ih3 _ _ _ _ _ _
      | exact ih4 _ _ _ _ _ _ _
      | exact ih5 _ _ _ _ _ _ _ _ _ _
      | exact ih6 _ _ _ _ _ _ _ _ _
      | exact ih7 _ _ _ _ _ _ _ _ _ _ _ _ _
      | exact impl_GoodBridges.mono _ _
      | exact impl_LeaderOf.mono _ _
      | exact impl_LeadersBy.mono _ _ _
      | exact laws_sameInts.mono _ _ _
      | exact spec_DrawBeats.mono _ _
      | exact spec_DrawLeadersBy.mono _ _
      | exact spec_GoodBridges.mono _ _
      | exact spec_LeaderOf.mono _ _
      | exact spec_LeadersBy.mono _ _ _
      | exact LeO.none _
      | refine LeO.ite ?_ ?_
      | refine LeO.bind ?_ (fun _ => ?_)
    · intro y0 y1 y2 y3 y4 y5 y6 y7 y8
      unfold laws_FnLeaders.j7
      repeat' first
      | (with_reducible exact ih0 _ _ _ _ _)
      | (with_reducible exact ih1 _)
      | (with_reducible exact ih2 _ _ _ _ _ _ _ _ _)
      | (with_reducible exact ih3 _ _ _ _ _ _)
      | (with_reducible exact ih4 _ _ _ _ _ _ _)
      | (with_reducible exact ih5 _ _ _ _ _ _ _ _ _ _)
      | (with_reducible exact ih6 _ _ _ _ _ _ _ _ _)
      | (with_reducible exact ih7 _ _ _ _ _ _ _ _ _ _ _ _ _)
      | (with_reducible exact impl_GoodBridges.mono _ _)
      | (with_reducible exact impl_LeaderOf.mono _ _)
      | (with_reducible exact impl_LeadersBy.mono _ _ _)
      | (with_reducible exact laws_sameInts.mono _ _ _)
      | (with_reducible exact spec_DrawBeats.mono _ _)
      | (with_reducible exact spec_DrawLeadersBy.mono _ _)
      | (with_reducible exact spec_GoodBridges.mono _ _)
      | (with_reducible exact spec_LeaderOf.mono _ _)
      | (with_reducible exact spec_LeadersBy.mono _ _ _)
      | (with_reducible exact LeO.refl _)
      | (with_reducible exact LeO.none _)
      | (with_reducible refine LeO.ite ?_ ?_)
      | (with_reducible refine LeO.bind ?_ (fun _ => ?_))
      | exact ih0 _ _ _ _ _
      | exact ih1 _
      | exact ih2 _ _ _ _ _ _ _ _ _
      | exact ih3 _ _ _ _ _ _
      | exact ih4 _ _ _ _ _ _ _
      | exact ih5 _ _ _ _ _ _ _ _ _ _
      | exact ih6 _ _ _ _ _ _ _ _ _
      | exact ih7 _ _ _ _ _ _ _ _ _ _ _ _ _
      | exact impl_GoodBridges.mono _ _
      | exact impl_LeaderOf.mono _ _
      | exact impl_LeadersBy.mono _ _ _
      | exact laws_sameInts.mono _ _ _
      | exact spec_DrawBeats.mono _ _
      | exact spec_DrawLeadersBy.mono _ _
      | exact spec_GoodBridges.mono _ _
      | exact spec_LeaderOf.mono _ _
      | exact spec_LeadersBy.mono _ _ _
      | exact LeO.none _
      | refine LeO.ite ?_ ?_
      | refine LeO.bind ?_ (fun _ => ?_)
    · intro y0 y1 y2 y3 y4 y5
      unfold laws_FnLeaders.l0
      repeat' first
      | (with_reducible exact ih0 _ _ _ _ _)
      | (with_reducible exact ih1 _)
      | (with_reducible exact ih2 _ _ _ _ _ _ _ _ _)
      | (with_reducible exact ih3 _ _ _ _ _ _)
      | (with_reducible exact ih4 _ _ _ _ _ _ _)
      | (with_reducible exact ih5 _ _ _ _ _ _ _ _ _ _)
      | (with_reducible exact ih6 _ _ _ _ _ _ _ _ _)
      | (with_reducible exact ih7 _ _ _ _ _ _ _ _ _ _ _ _ _)
      | (with_reducible exact impl_GoodBridges.mono _ _)
      | (with_reducible exact impl_LeaderOf.mono _ _)
      | (with_reducible exact impl_LeadersBy.mono _ _ _)
      | (with_reducible exact laws_sameInts.mono _ _ _)
      | (with_reducible exact spec_DrawBeats.mono _ _)
      | (with_reducible exact spec_DrawLeadersBy.mono _ _)
      | (with_reducible exact spec_GoodBridges.mono _ _)
      | (with_reducible exact spec_LeaderOf.mono _ _)
      | (with_reducible exact spec_LeadersBy.mono _ _ _)
      | (with_reducible exact LeO.refl _)
      | (with_reducible exact LeO.none _)
      | (with_reducible refine LeO.ite ?_ ?_)
      | (with_reducible refine LeO.bind ?_ (fun _ => ?_))
      | exact ih0 _ _ _ _ _
      | exact ih1 _
      | exact ih2 _ _ _ _ _ _ _ _ _
      | exact ih3 _ _ _ _ _ _
      | exact ih4 _ _ _ _ _ _ _
      | exact ih5 _ _ _ _ _ _ _ _ _ _
      | exact ih6 _ _ _ _ _ _ _ _ _
      | exact ih7 _ _ _ _ _ _ _ _ _ _ _ _ _
      | exact impl_GoodBridges.mono _ _
      | exact impl_LeaderOf.mono _ _
      | exact impl_LeadersBy.mono _ _ _
      | exact laws_sameInts.mono _ _ _
      | exact spec_DrawBeats.mono _ _
      | exact spec_DrawLeadersBy.mono _ _
      | exact spec_GoodBridges.mono _ _
      | exact spec_LeaderOf.mono _ _
      | exact spec_LeadersBy.mono _ _ _
      | exact LeO.none _
      | refine LeO.ite ?_ ?_
      | refine LeO.bind ?_ (fun _ => ?_)
    · intro y0 y1 y2 y3 y4 y5 y6
      unfold laws_FnLeaders.l1
      repeat' first
      | (with_reducible exact ih0 _ _ _ _ _)
      | (with_reducible exact ih1 _)
      | (with_reducible exact ih2 _ _ _ _ _ _ _ _ _)
      | (with_reducible exact ih3 _ _ _ _ _ _)
      | (with_reducible exact ih4 _ _ _ _ _ _ _)
      | (with_reducible exact ih5 _ _ _ _ _ _ _ _ _ _)
      | (with_reducible exact ih6 _ _ _ _ _ _ _ _ _)
      | (with_reducible exact ih7 _ _ _ _ _ _ _ _ _ _ _ _ _)
      | (with_reducible exact impl_GoodBridges.mono _ _)
      | (with_reducible exact impl_LeaderOf.mono _ _)
      | (with_reducible exact impl_LeadersBy.mono _ _ _)
      | (with_reducible exact laws_sameInts.mono _ _ _)
      | (with_reducible exact spec_DrawBeats.mono _ _)
      | (with_reducible exact spec_DrawLeadersBy.mono _ _)
      | (with_reducible exact spec_GoodBridges.mono _ _)
      | (with_reducible exact spec_LeaderOf.mono _ _)
      | (with_reducible exact spec_LeadersBy.mono _ _ _)
      | (with_reducible exact LeO.refl _)
      | (with_reducible exact LeO.none _)
      | (with_reducible refine LeO.ite ?_ ?_)
      | (with_reducible refine LeO.bind ?_ (fun _ => ?_))
      | exact ih0 _ _ _ _ _
      | exact ih1 _
      | exact ih2 _ _ _ _ _ _ _ _ _
      | exact ih3 _ _ _ _ _ _
      | exact ih4 _ _ _ _ _ _ _
      | exact ih5 _ _ _ _ _ _ _ _ _ _
      | exact ih6 _ _ _ _ _ _ _ _ _
      | exact ih7 _ _ _ _ _ _ _ _ _ _ _ _ _
      | exact impl_GoodBridges.mono _ _
      | exact impl_LeaderOf.mono _ _
      | exact impl_LeadersBy.mono _ _ _
      | exact laws_sameInts.mono _ _ _
      | exact spec_DrawBeats.mono _ _
      | exact spec_DrawLeadersBy.mono _ _
      | exact spec_GoodBridges.mono _ _
      | exact spec_LeaderOf.mono _ _
      | exact spec_LeadersBy.mono _ _ _
      | exact LeO.none _
      | refine LeO.ite ?_ ?_
      | refine LeO.bind ?_ (fun _ => ?_)
    · intro y0 y1 y2 y3 y4 y5 y6 y7 y8 y9
      unfold laws_FnLeaders.l2
      repeat' first
      | (with_reducible exact ih0 _ _ _ _ _)
      | (with_reducible exact ih1 _)
      | (with_reducible exact ih2 _ _ _ _ _ _ _ _ _)
      | (with_reducible exact ih3 _ _ _ _ _ _)
      | (with_reducible exact ih4 _ _ _ _ _ _ _)
      | (with_reducible exact ih5 _ _ _ _ _ _ _ _ _ _)
      | (with_reducible exact ih6 _ _ _ _ _ _ _ _ _)
      | (with_reducible exact ih7 _ _ _ _ _ _ _ _ _ _ _ _ _)
      | (with_reducible exact impl_GoodBridges.mono _ _)
      | (with_reducible exact impl_LeaderOf.mono _ _)
      | (with_reducible exact impl_LeadersBy.mono _ _ _)
      | (with_reducible exact laws_sameInts.mono _ _ _)
      | (with_reducible exact spec_DrawBeats.mono _ _)
      | (with_reducible exact spec_DrawLeadersBy.mono _ _)
      | (with_reducible exact spec_GoodBridges.mono _ _)
      | (with_reducible exact spec_LeaderOf.mono _ _)
      | (with_reducible exact spec_LeadersBy.mono _ _ _)
      | (with_reducible exact LeO.refl _)
      | (with_reducible exact LeO.none _)
      | (with_reducible refine LeO.ite ?_ ?_)
      | (with_reducible refine LeO.bind ?_ (fun _ => ?_))
      | exact ih0 _ _ _ _ _
      | exact ih1 _
      | exact ih2 _ _ _ _ _ _ _ _ _
      | exact ih3 _ _ _ _ _ _
      | exact ih4 _ _ _ _ _ _ _
      | exact ih5 _ _ _ _ _ _ _ _ _ _
      | exact ih6 _ _ _ _ _ _ _ _ _
      | exact ih7 _ _ _ _ _ _ _ _ _ _ _ _ _
      | exact impl_GoodBridges.mono _ _
      | exact impl_LeaderOf.mono _ _
      | exact impl_LeadersBy.mono _ _ _
      | exact laws_sameInts.mono _ _ _
      | exact spec_DrawBeats.mono _ _
      | exact spec_DrawLeadersBy.mono _ _
      | exact spec_GoodBridges.mono _ _
      | exact spec_LeaderOf.mono _ _
      | exact spec_LeadersBy.mono _ _ _
      | exact LeO.none _
      | refine LeO.ite ?_ ?_
      | refine LeO.bind ?_ (fun _ => ?_)
    · intro y0 y1 y2 y3 y4 y5 y6 y7 y8
      unfold laws_FnLeaders.l3
      repeat' first
      | (with_reducible exact ih0 _ _ _ _ _)
      | (with_reducible exact ih1 _)
      | (with_reducible exact ih2 _ _ _ _ _ _ _ _ _)
      | (with_reducible exact ih3 _ _ _ _ _ _)
      | (with_reducible exact ih4 _ _ _ _ _ _ _)
      | (with_reducible exact ih5 _ _ _ _ _ _ _ _ _ _)
      | (with_reducible exact ih6 _ _ _ _ _ _ _ _ _)
      | (with_reducible exact ih7 _ _ _ _ _ _ _ _ _ _ _ _ _)
      | (with_reducible exact impl_GoodBridges.mono _ _)
      | (with_reducible exact impl_LeaderOf.mono _ _)
      | (with_reducible exact impl_LeadersBy.mono _ _ _)
      | (with_reducible exact laws_sameInts.mono _ _ _)
      | (with_reducible exact spec_DrawBeats.mono _ _)
      | (with_reducible exact spec_DrawLeadersBy.mono _ _)
      | (with_reducible exact spec_GoodBridges.mono _ _)
      | (with_reducible exact spec_LeaderOf.mono _ _)
      | (with_reducible exact spec_LeadersBy.mono _ _ _)
      | (with_reducible exact LeO.refl _)
      | (with_reducible exact LeO.none _)
      | (with_reducible refine LeO.ite ?_ ?_)
      | (with_reducible refine LeO.bind ?_ (fun _ => ?_))
      | exact ih0 _ _ _ _ _
      | exact ih1 _
      | exact ih2 _ _ _ _ _ _ _ _ _
      | exact ih3 _ _ _ _ _ _
      | exact ih4 _ _ _ _ _ _ _
      | exact ih5 _ _ _ _ _ _ _ _ _ _
      | exact ih6 _ _ _ _ _ _ _ _ _
      | exact ih7 _ _ _ _ _ _ _ _ _ _ _ _ _
      | exact impl_GoodBridges.mono _ _
      | exact impl_LeaderOf.mono _ _
      | exact impl_LeadersBy.mono _ _ _
      | exact laws_sameInts.mono _ _ _
      | exact spec_DrawBeats.mono _ _
      | exact spec_DrawLeadersBy.mono _ _
      | exact spec_GoodBridges.mono _ _
      | exact spec_LeaderOf.mono _ _
      | exact spec_LeadersBy.mono _ _ _
      | exact LeO.none _
      | refine LeO.ite ?_ ?_
      | refine LeO.bind ?_ (fun _ => ?_)
    · intro y0 y1 y2 y3 y4 y5 y6 y7 y8 y9 y10 y11 y12
      unfold laws_FnLeaders.j5
      repeat' first
      | (with_reducible exact ih0 _ _ _ _ _)
      | (with_reducible exact ih1 _)
      | (with_reducible exact ih2 _ _ _ _ _ _ _ _ _)
      | (with_reducible exact ih3 _ _ _ _ _ _)
      | (with_reducible exact ih4 _ _ _ _ _ _ _)
      | (with_reducible exact ih5 _ _ _ _ _ _ _ _ _ _)
      | (with_reducible exact ih6 _ _ _ _ _ _ _ _ _)
      | (with_reducible exact ih7 _ _ _ _ _ _ _ _ _ _ _ _ _)
      | (with_reducible exact impl_GoodBridges.mono _ _)
      | (with_reducible exact impl_LeaderOf.mono _ _)
      | (with_reducible exact impl_LeadersBy.mono _ _ _)
      | (with_reducible exact laws_sameInts.mono _ _ _)
      | (with_reducible exact spec_DrawBeats.mono _ _)
      | (with_reducible exact spec_DrawLeadersBy.mono _ _)
      | (with_reducible exact spec_GoodBridges.mono _ _)
      | (with_reducible exact spec_LeaderOf.mono _ _)
      | (with_reducible exact spec_LeadersBy.mono _ _ _)
      | (with_reducible exact LeO.refl _)
      | (with_reducible exact LeO.none _)
      | (with_reducible refine LeO.ite ?_ ?_)
      | (with_reducible refine LeO.bind ?_ (fun _ => ?_))
      | exact ih0 _ _ _ _ _
      | exact ih1 _
      | exact ih2 _ _ _ _ _ _ _ _ _
      | exact ih3 _ _ _ _ _ _
      | exact ih4 _ _ _ _ _ _ _
      | exact ih5 _ _ _ _ _ _ _ _ _ _
      | exact ih6 _ _ _ _ _ _ _ _ _
      | exact ih7 _ _ _ _ _ _ _ _ _ _ _ _ _
      | exact impl_GoodBridges.mono _ _
      | exact impl_LeaderOf.mono _ _
      | exact impl_LeadersBy.mono _ _ _
      | exact laws_sameInts.mono _ _ _
      | exact spec_DrawBeats.mono _ _
      | exact spec_DrawLeadersBy.mono _ _
      | exact spec_GoodBridges.mono _ _
      | exact spec_LeaderOf.mono _ _
      | exact spec_LeadersBy.mono _ _ _
      | exact LeO.none _
      | refine LeO.ite ?_ ?_
      | refine LeO.bind ?_ (fun _ => ?_)
theorem laws_FnLeaders.mono : ∀ a0 a1 k, LeO (laws_FnLeaders.f k a0 a1) (laws_FnLeaders.f (k + 1) a0 a1) := by
  intro a0 a1 k
  obtain ⟨ih0, ih1, ih2, ih3, ih4, ih5, ih6, ih7⟩ := laws_FnLeaders.mono_l k
  unfold laws_FnLeaders.f
  repeat' first
      | (with_reducible exact ih0 _ _ _ _ _)
      | (with_reducible exact ih1 _)
      | (with_reducible exact ih2 _ _ _ _ _ _ _ _ _)
      | (with_reducible exact ih3 _ _ _ _ _ _)
      | (with_reducible exact ih4 _ _ _ _ _ _ _)
      | (with_reducible exact ih5 _ _ _ _ _ _ _ _ _ _)
      | (with_reducible exact ih6 _ _ _ _ _ _ _ _ _)
      | (with_reducible exact ih7 _ _ _ _ _ _ _ _ _ _ _ _ _)
      | (with_reducible exact impl_GoodBridges.mono _ _)
      | (with_reducible exact impl_LeaderOf.mono _ _)
      | (with_reducible exact impl_LeadersBy.mono _ _ _)
      | (with_reducible exact laws_sameInts.mono _ _ _)
      | (with_reducible exact spec_DrawBeats.mono _ _)
      | (with_reducible exact spec_DrawLeadersBy.mono _ _)
      | (with_reducible exact spec_GoodBridges.mono _ _)
      | (with_reducible exact spec_LeaderOf.mono _ _)
      | (with_reducible exact spec_LeadersBy.mono _ _ _)
      | (with_reducible exact LeO.refl _)
      | (with_reducible exact LeO.none _)
      | (with_reducible refine LeO.ite ?_ ?_)
      | (with_reducible refine LeO.bind ?_ (fun _ => ?_))
      | exact ih0 _ _ _ _ _
      | exact ih1 _
      | exact ih2 _ _ _ _ _ _ _ _ _
      | exact ih3 _ _ _ _ _ _
      | exact ih4 _ _ _ _ _ _ _
      | exact ih5 _ _ _ _ _ _ _ _ _ _
      | exact ih6 _ _ _ _ _ _ _ _ _
      | exact ih7 _ _ _ _ _ _ _ _ _ _ _ _ _
      | exact impl_GoodBridges.mono _ _
      | exact impl_LeaderOf.mono _ _
      | exact impl_LeadersBy.mono _ _ _
      | exact laws_sameInts.mono _ _ _
      | exact spec_DrawBeats.mono _ _
      | exact spec_DrawLeadersBy.mono _ _
      | exact spec_GoodBridges.mono _ _
      | exact spec_LeaderOf.mono _ _
      | exact spec_LeadersBy.mono _ _ _
      | exact LeO.none _
      | refine LeO.ite ?_ ?_
      | refine LeO.bind ?_ (fun _ => ?_)
set_option maxHeartbeats 8000000 in
set_option maxRecDepth 100000 in
theorem laws_FnLeaders.calls (k : Nat) (A0 : Option Addr) (c0 : Nat) (l0 : List Int) (A1 : Option Addr) (c1 : Nat) (l1 : List Int) (r : Bool) (w : World) (hr0 : Kd.C (Kd.int .u8) w A0 l0.length l0) (hc0 : l0.length ≤ c0) (hr1 : Kd.C (Kd.int .u8) w A1 l1.length l1) (hc1 : l1.length ≤ c1) (h : laws_FnLeaders.f k l0 l1 = some r) :
    Calls Try.prog 3 #[.slice A0 l0.length c0, .slice A1 l1.length c1] w fun e w' => e = .returned (.bool r) ∧ Below w.heap.size w w' := by
  have hu35 := Try.underlying35
  have HR0 := Aside0.mk hr0
  have HC0 := Aside0.mk hc0
  clear hr0 hc0
  have HR1 := Aside0.mk hr1
  have HC1 := Aside0.mk hc1
  clear hr1 hc1
  have HB := Aside0.mk (Below.refl w.heap.size w)
  have H : (if (wrap64 ((l0.length : Int) + (l1.length : Int))) > 1048576 then (some true) else ((spec_DrawLeadersBy.f k l0).bind fun bt319 => ((impl_LeadersBy.f k bt319.1 bt319.2).bind fun bt325 => ((spec_LeadersBy.f k bt319.1 bt319.2).bind fun bt329 => ((impl_LeaderOf.f k bt319.1).bind fun bt333 => ((spec_LeaderOf.f k bt319.1).bind fun bt335 => (if (bt325.2 != bt329.2) = true then (none) else ((laws_sameInts.f k bt325.1 bt329.1).bind fun t337 => (if t337 = true then (if (bt333.2 != bt335.2) = true then (none) else (if bt333.1 = bt335.1 then ((impl_GoodBridges.f k bt319.1).bind fun t338 => ((spec_GoodBridges.f k bt319.1).bind fun t339 => (laws_FnLeaders.j0 k l1 bt319.1 bt333.1 bt333.2 (t338 != t339)))) else (none))) else (none)))))))))) = some r := h
  clear h
  by_cases c3 : (wrap64 ((l0.length : Int) + (l1.length : Int))) > 1048576
  · rw [if_pos c3] at H
    have c3b0 : decide (1048576 < (wrap64 ((l0.length : Int) + (l1.length : Int)))) = true := decide_eq_true c3
    clear c3
    as_aux_lemma =>
      obtain rfl := Option.some.inj H
      go_enter Try.func3, Try.ntmps3
      go_wp2
      go_ret
      exact ⟨by first | rfl | (simp [errW_none, errW_some] <;> rfl) | (simp [*, errW_none, errW_some] <;> rfl), by repeat (first | (with_reducible first | exact HB.out | apply below_alloc | apply pw_below_drewN | apply below_drew1) | exact HB.out)⟩
  · rw [if_neg c3] at H
    have c3b0 : decide (1048576 < (wrap64 ((l0.length : Int) + (l1.length : Int)))) = false := decide_eq_false c3
    clear c3
    replace H := Option.bind_eq_some_iff.mp H
    obtain ⟨⟨t319, t320⟩, A40, H⟩ := H
    replace H : ((impl_LeadersBy.f k t319 t320).bind fun bt325 => ((spec_LeadersBy.f k t319 t320).bind fun bt329 => ((impl_LeaderOf.f k t319).bind fun bt333 => ((spec_LeaderOf.f k t319).bind fun bt335 => (if (bt325.2 != bt329.2) = true then (none) else ((laws_sameInts.f k bt325.1 bt329.1).bind fun t337 => (if t337 = true then (if (bt333.2 != bt335.2) = true then (none) else (if bt333.1 = bt335.1 then ((impl_GoodBridges.f k t319).bind fun t338 => ((spec_GoodBridges.f k t319).bind fun t339 => (laws_FnLeaders.j0 k l1 t319 bt333.1 bt333.2 (t338 != t339)))) else (none))) else (none)))))))) = some r := H
    have A4 := Aside0.mk A40
    clear A40
    replace H := Option.bind_eq_some_iff.mp H
    obtain ⟨⟨t325, t326⟩, A50, H⟩ := H
    replace H : ((spec_LeadersBy.f k t319 t320).bind fun bt329 => ((impl_LeaderOf.f k t319).bind fun bt333 => ((spec_LeaderOf.f k t319).bind fun bt335 => (if (t326 != bt329.2) = true then (none) else ((laws_sameInts.f k t325 bt329.1).bind fun t337 => (if t337 = true then (if (bt333.2 != bt335.2) = true then (none) else (if bt333.1 = bt335.1 then ((impl_GoodBridges.f k t319).bind fun t338 => ((spec_GoodBridges.f k t319).bind fun t339 => (laws_FnLeaders.j0 k l1 t319 bt333.1 bt333.2 (t338 != t339)))) else (none))) else (none))))))) = some r := H
    have A5 := Aside0.mk A50
    clear A50
    replace H := Option.bind_eq_some_iff.mp H
    obtain ⟨⟨t329, t330⟩, A60, H⟩ := H
    replace H : ((impl_LeaderOf.f k t319).bind fun bt333 => ((spec_LeaderOf.f k t319).bind fun bt335 => (if (t326 != t330) = true then (none) else ((laws_sameInts.f k t325 t329).bind fun t337 => (if t337 = true then (if (bt333.2 != bt335.2) = true then (none) else (if bt333.1 = bt335.1 then ((impl_GoodBridges.f k t319).bind fun t338 => ((spec_GoodBridges.f k t319).bind fun t339 => (laws_FnLeaders.j0 k l1 t319 bt333.1 bt333.2 (t338 != t339)))) else (none))) else (none)))))) = some r := H
    have A6 := Aside0.mk A60
    clear A60
    replace H := Option.bind_eq_some_iff.mp H
    obtain ⟨⟨t333, t334⟩, A70, H⟩ := H
    replace H : ((spec_LeaderOf.f k t319).bind fun bt335 => (if (t326 != t330) = true then (none) else ((laws_sameInts.f k t325 t329).bind fun t337 => (if t337 = true then (if (t334 != bt335.2) = true then (none) else (if t333 = bt335.1 then ((impl_GoodBridges.f k t319).bind fun t338 => ((spec_GoodBridges.f k t319).bind fun t339 => (laws_FnLeaders.j0 k l1 t319 t333 t334 (t338 != t339)))) else (none))) else (none))))) = some r := H
    have A7 := Aside0.mk A70
    clear A70
    replace H := Option.bind_eq_some_iff.mp H
    obtain ⟨⟨t335, t336⟩, A80, H⟩ := H
    replace H : (if (t326 != t330) = true then (none) else ((laws_sameInts.f k t325 t329).bind fun t337 => (if t337 = true then (if (t334 != t336) = true then (none) else (if t333 = t335 then ((impl_GoodBridges.f k t319).bind fun t338 => ((spec_GoodBridges.f k t319).bind fun t339 => (laws_FnLeaders.j0 k l1 t319 t333 t334 (t338 != t339)))) else (none))) else (none)))) = some r := H
    have A8 := Aside0.mk A80
    clear A80
    have HC9 := Aside0.mk H
    clear H
    go_enter Try.func3, Try.ntmps3
    go_upto_region 8 with (first | ((with_reducible refine gate_callee (f := 7) rfl ?_); refine goesL_ (some 43) rfl rfl Try.func7 (by kernel_rfl) rfl #[.slice A0 l0.length c0] rfl (by (try simp only [List.map_toArray, List.map_cons, List.map_nil]); first | done | rfl | (simp only [List.length_drop, List.length_take]; rfl)) ?_; (with_reducible refine (spec_DrawLeadersBy.calls k _ _ l0 t319 t320 _ ?side1 ?side2 A4.out).mono ?_); (case side1 => repeat (first | exact HR0.out | (with_reducible refine Kd.C_alloc ?_ _) | (with_reducible refine Kd.C_drewN ?_ _) | (with_reducible refine Kd.C_drew ?_))); (case side2 => exact HC0.out); rintro e w10 ⟨v321, v323, rfl, ho0, ho1, hb⟩; refine ⟨_, rfl, ?_⟩; have n0_ := Aside0.mk (Kd.R_lower ho0 (below_size (by repeat (first | (with_reducible first | exact HB.out | apply below_alloc | apply pw_below_drewN | apply below_drew1) | exact HB.out)))); have n1_ := Aside0.mk (Kd.S_lower ho1 (below_size (by repeat (first | (with_reducible first | exact HB.out | apply below_alloc | apply pw_below_drewN | apply below_drew1) | exact HB.out)))); have n2_ := Aside0.mk (below_step (by repeat (first | (with_reducible first | exact HB.out | apply below_alloc | apply pw_below_drewN | apply below_drew1) | exact HB.out)) hb); clear HB; have HO322 := n0_; have HO324 := n1_; have HB := n2_; clear n0_ n1_ n2_; (try clear hb); (try clear hb2); (try clear hk); (try clear hi); (try clear ho0); (try clear ho1); obtain ⟨Ao11, co11, eo11⟩ := Kd.R_slice HO322.out; subst eo11; obtain ⟨Ao12, co12, eo12⟩ := Kd.S_slice HO324.out; subst eo12) | ((with_reducible refine gate_callee (f := 8) rfl ?_); refine goesL_ (some 49) rfl rfl Try.func8 (by kernel_rfl) rfl #[.slice Ao11 t319.length co11, .slice Ao12 t320.length co12] rfl (by (try simp only [List.map_toArray, List.map_cons, List.map_nil]); first | done | rfl | (simp only [List.length_drop, List.length_take]; rfl)) ?_; (with_reducible refine (impl_LeadersBy.calls k _ _ t319 _ _ t320 t325 t326 _ ?side1 ?side2 ?side3 ?side4 A5.out).mono ?_); (case side1 => repeat (first | exact (Kd.R_reads' HO322.out).2.2 | (with_reducible refine Kd.C_alloc ?_ _) | (with_reducible refine Kd.C_drewN ?_ _) | (with_reducible refine Kd.C_drew ?_))); (case side2 => exact (Kd.R_reads' HO322.out).2.1); (case side3 => repeat (first | exact (Kd.S_reads' HO324.out).2.2 | (with_reducible refine Kd.C_alloc ?_ _) | (with_reducible refine Kd.C_drewN ?_ _) | (with_reducible refine Kd.C_drew ?_))); (case side4 => exact (Kd.S_reads' HO324.out).2.1); rintro e w13 ⟨v327, rfl, ho0, hb⟩; refine ⟨_, rfl, ?_⟩; have n0_ := Aside0.mk (Kd.R_below (by (with_reducible repeat (first | apply Kd.R_alloc | apply Kd.R_drewN | apply Kd.R_drew)); exact HO322.out) hb); have n1_ := Aside0.mk (Kd.S_elder' (by (with_reducible repeat (first | apply Kd.S_alloc | apply Kd.S_drewN | apply Kd.S_drew)); exact HO324.out) (Kd.R_base ho0) hb); have n2_ := Aside0.mk (Kd.R_lower ho0 (below_size (by repeat (first | (with_reducible first | exact HB.out | apply below_alloc | apply pw_below_drewN | apply below_drew1) | exact HB.out)))); have n3_ := Aside0.mk (below_step (by repeat (first | (with_reducible first | exact HB.out | apply below_alloc | apply pw_below_drewN | apply below_drew1) | exact HB.out)) hb); clear HO322; clear HO324; clear HB; have HO322 := n0_; have HO324 := n1_; have HO328 := n2_; have HB := n3_; clear n0_ n1_ n2_ n3_; (try clear hb); (try clear hb2); (try clear hk); (try clear hi); (try clear ho0)) | ((with_reducible refine gate_callee (f := 9) rfl ?_); refine goesL_ (some 55) rfl rfl Try.func9 (by kernel_rfl) rfl #[.slice Ao11 t319.length co11, .slice Ao12 t320.length co12] rfl (by (try simp only [List.map_toArray, List.map_cons, List.map_nil]); first | done | rfl | (simp only [List.length_drop, List.length_take]; rfl)) ?_; (with_reducible refine (spec_LeadersBy.calls k _ _ t319 _ _ t320 t329 t330 _ ?side1 ?side2 ?side3 ?side4 A6.out).mono ?_); (case side1 => repeat (first | exact (Kd.R_reads' HO322.out).2.2 | (with_reducible refine Kd.C_alloc ?_ _) | (with_reducible refine Kd.C_drewN ?_ _) | (with_reducible refine Kd.C_drew ?_))); (case side2 => exact (Kd.R_reads' HO322.out).2.1); (case side3 => repeat (first | exact (Kd.S_reads' HO324.out).2.2 | (with_reducible refine Kd.C_alloc ?_ _) | (with_reducible refine Kd.C_drewN ?_ _) | (with_reducible refine Kd.C_drew ?_))); (case side4 => exact (Kd.S_reads' HO324.out).2.1); rintro e w14 ⟨v331, rfl, ho0, hb⟩; refine ⟨_, rfl, ?_⟩; have n0_ := Aside0.mk (Kd.R_below (by (with_reducible repeat (first | apply Kd.R_alloc | apply Kd.R_drewN | apply Kd.R_drew)); exact HO322.out) hb); have n1_ := Aside0.mk (Kd.S_elder' (by (with_reducible repeat (first | apply Kd.S_alloc | apply Kd.S_drewN | apply Kd.S_drew)); exact HO324.out) (Kd.R_base ho0) hb); have n2_ := Aside0.mk (Kd.R_elder' (by (with_reducible repeat (first | apply Kd.R_alloc | apply Kd.R_drewN | apply Kd.R_drew)); exact HO328.out) (Kd.R_base ho0) hb); have n3_ := Aside0.mk (Kd.R_lower (Kd.R_new' ho0 (Kd.R_lt (by (with_reducible repeat (first | apply Kd.R_alloc | apply Kd.R_drewN | apply Kd.R_drew)); exact HO328.out))) (below_size (by repeat (first | (with_reducible first | exact HB.out | apply below_alloc | apply pw_below_drewN | apply below_drew1) | exact HB.out)))); have n4_ := Aside0.mk (below_step (by repeat (first | (with_reducible first | exact HB.out | apply below_alloc | apply pw_below_drewN | apply below_drew1) | exact HB.out)) hb); clear HO322; clear HO324; clear HO328; clear HB; have HO322 := n0_; have HO324 := n1_; have HO328 := n2_; have HO332 := n3_; have HB := n4_; clear n0_ n1_ n2_ n3_ n4_; (try clear hb); (try clear hb2); (try clear hk); (try clear hi); (try clear ho0)) | ((with_reducible refine gate_callee (f := 10) rfl ?_); refine goesL_ (some 60) rfl rfl Try.func10 (by kernel_rfl) rfl #[.slice Ao11 t319.length co11] rfl (by (try simp only [List.map_toArray, List.map_cons, List.map_nil]); first | done | rfl | (simp only [List.length_drop, List.length_take]; rfl)) ?_; (with_reducible refine (impl_LeaderOf.calls k _ _ t319 t333 t334 _ ?side1 ?side2 A7.out).mono ?_); (case side1 => repeat (first | exact (Kd.R_reads' HO322.out).2.2 | (with_reducible refine Kd.C_alloc ?_ _) | (with_reducible refine Kd.C_drewN ?_ _) | (with_reducible refine Kd.C_drew ?_))); (case side2 => exact (Kd.R_reads' HO322.out).2.1); rintro e w15 ⟨rfl, hb⟩; refine ⟨_, rfl, ?_⟩; have n0_ := Aside0.mk (Kd.R_below (by (with_reducible repeat (first | apply Kd.R_alloc | apply Kd.R_drewN | apply Kd.R_drew)); exact HO322.out) hb); have n1_ := Aside0.mk (Kd.S_below (by (with_reducible repeat (first | apply Kd.S_alloc | apply Kd.S_drewN | apply Kd.S_drew)); exact HO324.out) hb); have n2_ := Aside0.mk (Kd.R_below (by (with_reducible repeat (first | apply Kd.R_alloc | apply Kd.R_drewN | apply Kd.R_drew)); exact HO328.out) hb); have n3_ := Aside0.mk (Kd.R_below (by (with_reducible repeat (first | apply Kd.R_alloc | apply Kd.R_drewN | apply Kd.R_drew)); exact HO332.out) hb); have n4_ := Aside0.mk (below_step (by repeat (first | (with_reducible first | exact HB.out | apply below_alloc | apply pw_below_drewN | apply below_drew1) | exact HB.out)) hb); clear HO322; clear HO324; clear HO328; clear HO332; clear HB; have HO322 := n0_; have HO324 := n1_; have HO328 := n2_; have HO332 := n3_; have HB := n4_; clear n0_ n1_ n2_ n3_ n4_; (try clear hb); (try clear hb2); (try clear hk); (try clear hi)) | ((with_reducible refine gate_callee (f := 11) rfl ?_); refine goesL_ (some 65) rfl rfl Try.func11 (by kernel_rfl) rfl #[.slice Ao11 t319.length co11] rfl (by (try simp only [List.map_toArray, List.map_cons, List.map_nil]); first | done | rfl | (simp only [List.length_drop, List.length_take]; rfl)) ?_; (with_reducible refine (spec_LeaderOf.calls k _ _ t319 t335 t336 _ ?side1 ?side2 A8.out).mono ?_); (case side1 => repeat (first | exact (Kd.R_reads' HO322.out).2.2 | (with_reducible refine Kd.C_alloc ?_ _) | (with_reducible refine Kd.C_drewN ?_ _) | (with_reducible refine Kd.C_drew ?_))); (case side2 => exact (Kd.R_reads' HO322.out).2.1); rintro e w16 ⟨rfl, hb⟩; refine ⟨_, rfl, ?_⟩; have n0_ := Aside0.mk (Kd.R_below (by (with_reducible repeat (first | apply Kd.R_alloc | apply Kd.R_drewN | apply Kd.R_drew)); exact HO322.out) hb); have n1_ := Aside0.mk (Kd.S_below (by (with_reducible repeat (first | apply Kd.S_alloc | apply Kd.S_drewN | apply Kd.S_drew)); exact HO324.out) hb); have n2_ := Aside0.mk (Kd.R_below (by (with_reducible repeat (first | apply Kd.R_alloc | apply Kd.R_drewN | apply Kd.R_drew)); exact HO328.out) hb); have n3_ := Aside0.mk (Kd.R_below (by (with_reducible repeat (first | apply Kd.R_alloc | apply Kd.R_drewN | apply Kd.R_drew)); exact HO332.out) hb); have n4_ := Aside0.mk (below_step (by repeat (first | (with_reducible first | exact HB.out | apply below_alloc | apply pw_below_drewN | apply below_drew1) | exact HB.out)) hb); clear HO322; clear HO324; clear HO328; clear HO332; clear HB; have HO322 := n0_; have HO324 := n1_; have HO328 := n2_; have HO332 := n3_; have HB := n4_; clear n0_ n1_ n2_ n3_ n4_; (try clear hb); (try clear hb2); (try clear hk); (try clear hi)))
    (try simp only [Act.put, List.setIfInBounds_toArray, List.set_cons_zero, List.set_cons_succ])
    go_cut [93] (fun v93 wc => ∃ (kq : Nat) (x93_8 : Bool), v93 = .bool x93_8 ∧ Aside0 (laws_FnLeaders.j0 kq l1 t319 t333 t334 x93_8 = some r) ∧ Aside0 (kq ≤ k) ∧ Aside0 (Kd.R k35 35 wc w.heap.size (fun _ => True) (.slice Ao11 t319.length co11) t319) ∧ Aside0 (Below w.heap.size w wc))
    case first =>
      have H := HC9.out
      clear HC9
      by_cases c17 : (t326 != t330) = true
      · rw [if_pos c17] at H
        exact absurd H (by simp)
      · rw [if_neg c17] at H
        have c17b0 : (t326 != t330) = false := by simpa using c17
        (try (have c17b1 : decide (t326 = t330) = true := by simpa using c17))
        (try (have c17b2 : (t326 == t330) = true := by simpa using c17))
        clear c17
        (first | rw [c17b0] | (simp only [i64_w, i32_w]; rw [c17b0]) | skip)
        replace H := Option.bind_eq_some_iff.mp H
        obtain ⟨t337, A180, H⟩ := H
        replace H : (if t337 = true then (if (t334 != t336) = true then (none) else (if t333 = t335 then ((impl_GoodBridges.f k t319).bind fun t338 => ((spec_GoodBridges.f k t319).bind fun t339 => (laws_FnLeaders.j0 k l1 t319 t333 t334 (t338 != t339)))) else (none))) else (none)) = some r := H
        have A18 := Aside0.mk A180
        clear A180
        by_cases c19 : t337 = true
        · subst c19
          have H1 : (if (t334 != t336) = true then (none) else (if t333 = t335 then ((impl_GoodBridges.f k t319).bind fun t338 => ((spec_GoodBridges.f k t319).bind fun t339 => (laws_FnLeaders.j0 k l1 t319 t333 t334 (t338 != t339)))) else (none))) = some r := by rw [if_pos rfl] at H; exact H
          clear H
          have H := H1
          clear H1
          by_cases c20 : (t334 != t336) = true
          · rw [if_pos c20] at H
            exact absurd H (by simp)
          · rw [if_neg c20] at H
            have c20b0 : (t334 != t336) = false := by simpa using c20
            (try (have c20b1 : decide (t334 = t336) = true := by simpa using c20))
            (try (have c20b2 : (t334 == t336) = true := by simpa using c20))
            clear c20
            by_cases c21 : t333 = t335
            · rw [if_pos c21] at H
              have c21b0 : (t333 == t335) = true := beq_iff_eq.mpr c21
              have c21b1 : (t333 != t335) = false := bne_eq_false_iff_eq.mpr c21
              clear c21
              replace H := Option.bind_eq_some_iff.mp H
              obtain ⟨t338, A220, H⟩ := H
              replace H : ((spec_GoodBridges.f k t319).bind fun t339 => (laws_FnLeaders.j0 k l1 t319 t333 t334 (t338 != t339))) = some r := H
              have A22 := Aside0.mk A220
              clear A220
              replace H := Option.bind_eq_some_iff.mp H
              obtain ⟨t339, A230, H⟩ := H
              replace H : (laws_FnLeaders.j0 k l1 t319 t333 t334 (t338 != t339)) = some r := H
              have A23 := Aside0.mk A230
              clear A230
              as_aux_lemma =>
                have H' := Aside0.mk H
                clear H
                obtain ⟨Ao24, co24, eo24⟩ := Kd.R_slice HO328.out
                subst eo24
                obtain ⟨Ao25, co25, eo25⟩ := Kd.R_slice HO332.out
                subst eo25
                go_wp2_with (first | (go_at_call 12; (with_reducible refine (laws_sameInts.calls k _ _ t325 _ _ t329 true _ ?side1 ?side2 ?side3 ?side4 A18.out).mono ?_); (case side1 => repeat (first | exact (Kd.R_reads' HO328.out).2.2 | (with_reducible refine Kd.C_alloc ?_ _) | (with_reducible refine Kd.C_drewN ?_ _) | (with_reducible refine Kd.C_drew ?_))); (case side2 => exact (Kd.R_reads' HO328.out).2.1); (case side3 => repeat (first | exact (Kd.R_reads' HO332.out).2.2 | (with_reducible refine Kd.C_alloc ?_ _) | (with_reducible refine Kd.C_drewN ?_ _) | (with_reducible refine Kd.C_drew ?_))); (case side4 => exact (Kd.R_reads' HO332.out).2.1); rintro e w' ⟨rfl, ⟨nd, rfl⟩⟩) | (go_at_call 13; (with_reducible refine (impl_GoodBridges.calls k _ _ t319 t338 _ ?side1 ?side2 A22.out).mono ?_); (case side1 => repeat (first | exact (Kd.R_reads' HO322.out).2.2 | (with_reducible refine Kd.C_alloc ?_ _) | (with_reducible refine Kd.C_drewN ?_ _) | (with_reducible refine Kd.C_drew ?_))); (case side2 => exact (Kd.R_reads' HO322.out).2.1); rintro e w26 ⟨rfl, hb⟩; have n0_ := Aside0.mk (Kd.R_below (by (with_reducible repeat (first | apply Kd.R_alloc | apply Kd.R_drewN | apply Kd.R_drew)); exact HO322.out) hb); have n1_ := Aside0.mk (Kd.S_below (by (with_reducible repeat (first | apply Kd.S_alloc | apply Kd.S_drewN | apply Kd.S_drew)); exact HO324.out) hb); have n2_ := Aside0.mk (Kd.R_below (by (with_reducible repeat (first | apply Kd.R_alloc | apply Kd.R_drewN | apply Kd.R_drew)); exact HO328.out) hb); have n3_ := Aside0.mk (Kd.R_below (by (with_reducible repeat (first | apply Kd.R_alloc | apply Kd.R_drewN | apply Kd.R_drew)); exact HO332.out) hb); have n4_ := Aside0.mk (below_step (by repeat (first | (with_reducible first | exact HB.out | apply below_alloc | apply pw_below_drewN | apply below_drew1) | exact HB.out)) hb); clear HO322; clear HO324; clear HO328; clear HO332; clear HB; have HO322 := n0_; have HO324 := n1_; have HO328 := n2_; have HO332 := n3_; have HB := n4_; clear n0_ n1_ n2_ n3_ n4_; (try clear hb); (try clear hb2); (try clear hk); (try clear hi)) | (go_at_call 14; (with_reducible refine (spec_GoodBridges.calls k _ _ t319 t339 _ ?side1 ?side2 A23.out).mono ?_); (case side1 => repeat (first | exact (Kd.R_reads' HO322.out).2.2 | (with_reducible refine Kd.C_alloc ?_ _) | (with_reducible refine Kd.C_drewN ?_ _) | (with_reducible refine Kd.C_drew ?_))); (case side2 => exact (Kd.R_reads' HO322.out).2.1); rintro e w27 ⟨rfl, hb⟩; have n0_ := Aside0.mk (Kd.R_below (by (with_reducible repeat (first | apply Kd.R_alloc | apply Kd.R_drewN | apply Kd.R_drew)); exact HO322.out) hb); have n1_ := Aside0.mk (Kd.S_below (by (with_reducible repeat (first | apply Kd.S_alloc | apply Kd.S_drewN | apply Kd.S_drew)); exact HO324.out) hb); have n2_ := Aside0.mk (Kd.R_below (by (with_reducible repeat (first | apply Kd.R_alloc | apply Kd.R_drewN | apply Kd.R_drew)); exact HO328.out) hb); have n3_ := Aside0.mk (Kd.R_below (by (with_reducible repeat (first | apply Kd.R_alloc | apply Kd.R_drewN | apply Kd.R_drew)); exact HO332.out) hb); have n4_ := Aside0.mk (below_step (by repeat (first | (with_reducible first | exact HB.out | apply below_alloc | apply pw_below_drewN | apply below_drew1) | exact HB.out)) hb); clear HO322; clear HO324; clear HO328; clear HO332; clear HB; have HO322 := n0_; have HO324 := n1_; have HO328 := n2_; have HO332 := n3_; have HB := n4_; clear n0_ n1_ n2_ n3_ n4_; (try clear hb); (try clear hb2); (try clear hk); (try clear hi)))
                go_meet
                case rel => exact ⟨_, ((t338 != t339)), (by first | rfl | (simp; done) | (simp [*]; done)), H', ⟨by first | omega | exact Nat.le_refl _⟩, ⟨by (with_reducible repeat (first | apply Kd.R_alloc | apply Kd.R_drewN | apply Kd.R_drew)); exact HO322.out⟩, ⟨by repeat (first | (with_reducible first | exact HB.out | apply below_alloc | apply pw_below_drewN | apply below_drew1) | exact HB.out)⟩⟩
            · rw [if_neg c21] at H
              exact absurd H (by simp)
        · replace c19 := Bool.eq_false_iff.mpr c19
          subst c19
          have H1 : (none) = some r := by rw [if_neg (show ¬ (false = true) by decide)] at H; exact H
          clear H
          have H := H1
          clear H1
          exact absurd H (by simp)
    case rest =>
      clear HC9
      try clear c1
      try clear c2
      try clear p2
      try clear c3
      try clear c3b0
      try clear p6
      try clear c7
      try clear c8
      try clear c9
      try clear c10
      try clear c11
      try clear c17
      try clear c17b0
      try clear c17b1
      try clear c17b2
      try clear c19
      try clear c20
      try clear c20b0
      try clear c20b1
      try clear c20b2
      try clear c21
      try clear c21b0
      try clear c21b1
      obtain ⟨kq, x93_8, rfl, HA, HJ8, HO_5, HB⟩ := hcut
      cases kq with
      | zero => exact absurd HA.out (by simp [laws_FnLeaders.j0])
      | succ kj8 =>
        have H := HA.out
        clear HA
        simp only [laws_FnLeaders.j0] at H
        by_cases c28 : x93_8 = true
        · subst c28
          have H1 : (none) = some r := by rw [if_pos rfl] at H; exact H
          clear H
          have H := H1
          clear H1
          exact absurd H (by simp)
        · replace c28 := Bool.eq_false_iff.mpr c28
          subst c28
          have H1 : (if t334 = true then (laws_FnLeaders.l0 kj8 l1 t319 t333 ([] : List Int) (t319.length : Int) 0) else (laws_FnLeaders.j6 kj8 l1)) = some r := by rw [if_neg (show ¬ (false = true) by decide)] at H; exact H
          clear H
          have H := H1
          clear H1
          have HC29 := Aside0.mk H
          clear H
          go_upto_if 94 with (fail)
          go_cut [] (fun wc => ∃ (kq : Nat), Aside0 (laws_FnLeaders.j6 kq l1 = some r) ∧ Aside0 (kq ≤ kj8) ∧ Aside0 (Below w.heap.size w wc))
          case first =>
            have H := HC29.out
            clear HC29
            by_cases c30 : t334 = true
            · subst c30
              have H1 : (laws_FnLeaders.l0 kj8 l1 t319 t333 ([] : List Int) (t319.length : Int) 0) = some r := by rw [if_pos rfl] at H; exact H
              clear H
              have H := H1
              clear H1
              have H' := Aside0.mk H
              clear H
              go_wp2
              go_loopg [15, 97] kj8 (fun kq v15 v97 w' => ∃ (x15_2 : List Int) (x97_2 : Int), v97 = .int .i64 x97_2 ∧ Aside0 (laws_FnLeaders.l0 kq l1 t319 t333 x15_2 (t319.length : Int) x97_2 = some r) ∧ Aside0 (kq ≤ kj8) ∧ Aside0 (Kd.R k35 35 w' w.heap.size (fun _ => True) (.slice Ao11 t319.length co11) t319) ∧ Aside0 (Kd.R (Kd.int .i64) 3 w' w.heap.size (fun _ => True) v15 x15_2) ∧ Aside0 (Below w.heap.size w w'))
              case atStart => exact ⟨(([] : List Int)), (0), (by first | rfl | (simp; done) | (simp [*]; done)), H', ⟨Nat.le_refl _⟩, ⟨by (with_reducible repeat (first | apply Kd.R_alloc | apply Kd.R_drewN | apply Kd.R_drew)); exact HO_5.out⟩, ⟨by first | exact Kd.R_nil _ _ _ _ _ | exact Kd.N_nil _ _ _ _ _ | exact Kd.V_nil _ _ _ _ _ | exact Kd.Q_nil _ _ _ _ _ | exact Kd.S_nil _ _ _ _ _⟩, ⟨by repeat (first | (with_reducible first | exact HB.out | apply below_alloc | apply pw_below_drewN | apply below_drew1) | exact HB.out)⟩⟩
              case round =>
                clear H'
                try clear c1
                try clear c2
                try clear p2
                try clear c3
                try clear c3b0
                try clear p6
                try clear c7
                try clear c8
                try clear c9
                try clear c10
                try clear c11
                try clear c17
                try clear c17b0
                try clear c17b1
                try clear c17b2
                try clear c19
                try clear c20
                try clear c20b0
                try clear c20b1
                try clear c20b2
                try clear c21
                try clear c21b0
                try clear c21b1
                try clear c28
                try clear c30
                try clear p2
                try clear p6
                obtain ⟨x15_2, x97_2, rfl, HA, HK2, HO_5, HO_15, HB⟩ := hrel
                cases gk with
                | zero => exact absurd HA.out (by simp [laws_FnLeaders.l0])
                | succ k2 =>
                  have H := HA.out
                  clear HA
                  simp only [laws_FnLeaders.l0] at H
                  by_cases c31 : x97_2 < (t319.length : Int)
                  · rw [if_pos c31] at H
                    have c31b0 : decide (x97_2 < (t319.length : Int)) = true := decide_eq_true c31
                    clear c31
                    (first | rw [c31b0] | (simp only [i64_w, i32_w]; rw [c31b0]) | skip)
                    by_cases c32 : x15_2.length < 17592186044416
                    · rw [if_pos c32] at H
                      have LMc32 := Aside0.mk c32
                      clear c32
                      obtain ⟨y340, hy340⟩ : ∃ y_ : List Int, y_ = (x15_2 ++ [x97_2]) := ⟨_, rfl⟩
                      replace H : (laws_FnLeaders.l0 k2 l1 t319 t333 y340 (t319.length : Int) (wrap64 (x97_2 + 1))) = some r := by first | (rw [hy340]; with_reducible exact H) | (have H2_ := (Option.bind_some _ _).symm.trans H; rw [hy340]; with_reducible exact H2_) | (have H2_ := (Option.bind_some _ _).symm.trans H; with_reducible exact H2_) | with_reducible exact H | (rw [hy340]; exact H) | exact H
                      have Ny340 := Aside0.mk hy340
                      clear hy340
                      as_aux_lemma =>
                        have H' := Aside0.mk H
                        clear H
                        go_wp2_with (first | ((with_reducible refine gate_builtin (b := .append) (xs := #[.tmp 100, .tmp 102]) rfl ?_); at_builtin; refine Kd.R_append (Kd.int .i64) (w0 := w) w.heap.size rfl (.tmp 100) (.tmp 102) 27 3 (.int .i64 0) 8 rfl Try.underlying27 info3 rfl (by decide) (by omega) u15 x15_2 x97_2 [.int .i64 x97_2] (fun _ => True) (fun _ => False) rfl rfl ?aP (fun _ hk => hk.elim) ?aF ?aO ?aB ?aS ?aL ?_; (case aP => exact rfl); (case aB => exact (by repeat (first | (with_reducible first | exact HB.out | apply below_alloc | apply pw_below_drewN | apply below_drew1) | exact HB.out))); (case aF => exact (fun _ _ => trivial)); (case aO => exact (by (with_reducible repeat (first | apply Kd.R_alloc | apply Kd.R_drewN | apply Kd.R_drew)); exact HO_15.out)); (case aS => exact (below_size (by repeat (first | (with_reducible first | exact HB.out | apply below_alloc | apply pw_below_drewN | apply below_drew1) | exact HB.out)))); (case aL => have := LMc32.out; omega); intro v341 w33 ho hb hg hat; rw [← Ny340.out] at ho; have n0_ := Aside0.mk (Kd.R_over' (by (with_reducible repeat (first | apply Kd.R_alloc | apply Kd.R_drewN | apply Kd.R_drew)); exact HO_5.out) (Kd.R_typed (by (with_reducible repeat (first | apply Kd.R_alloc | apply Kd.R_drewN | apply Kd.R_drew)); exact HO_15.out)) (by decide) hg); have n1_ := Aside0.mk (hb); have n2_ := Aside0.mk (ho); clear HO_5; clear HB; clear HO_15; have HO_5 := n0_; have HB := n1_; have HO342 := n2_; clear n0_ n1_ n2_; clear ho hb hg hat))
                        go_roundg k2
                        case measure => have := HJ8.out; have := HK2.out; omega
                        case rel => exact ⟨(y340), (wrap64 (x97_2 + 1)), (by first | rfl | (simp; done) | (simp [*]; done)), H', ⟨by have := HJ8.out; have := HK2.out; omega⟩, ⟨by (with_reducible repeat (first | apply Kd.R_alloc | apply Kd.R_drewN | apply Kd.R_drew)); exact HO_5.out⟩, ⟨by (with_reducible repeat (first | apply Kd.R_alloc | apply Kd.R_drewN | apply Kd.R_drew)); exact HO342.out⟩, ⟨by repeat (first | (with_reducible first | exact HB.out | apply below_alloc | apply pw_below_drewN | apply below_drew1) | exact HB.out)⟩⟩
                    · rw [if_neg c32] at H
                      exact absurd H (by simp)
                  · rw [if_neg c31] at H
                    have c31b0 : decide (x97_2 < (t319.length : Int)) = false := decide_eq_false c31
                    clear c31
                    (first | rw [c31b0] | (simp only [i64_w, i32_w]; rw [c31b0]) | skip)
                    have H' := Aside0.mk H
                    clear H
                    go_wp2
                    go_loopg [16, 107] k2 (fun kq v16 v107 w' => ∃ (x16_3 : List (List Int)) (x107_3 : Int), v107 = .int .i64 x107_3 ∧ Aside0 (laws_FnLeaders.l1 kq l1 t319 t333 x15_2 x16_3 (t319.length : Int) x107_3 = some r) ∧ Aside0 (kq ≤ k2) ∧ Aside0 (Kd.R k35 35 w' w.heap.size (fun _ => True) (.slice Ao11 t319.length co11) t319) ∧ Aside0 (Kd.R (Kd.int .i64) 3 w' w.heap.size (fun _ => True) u15 x15_2) ∧ Aside0 (Kd.S (Kd.slice 3 (Kd.int .i64)) 27 w' w.heap.size (fun k_ => some k_ ≠ (u15 : Value).ownBlock) v16 x16_3) ∧ Aside0 (Below w.heap.size w w'))
                    case atStart => exact ⟨(([] : List (List Int))), (0), (by first | rfl | (simp; done) | (simp [*]; done)), H', ⟨Nat.le_refl _⟩, ⟨by (with_reducible repeat (first | apply Kd.R_alloc | apply Kd.R_drewN | apply Kd.R_drew)); exact HO_5.out⟩, ⟨by (with_reducible repeat (first | apply Kd.R_alloc | apply Kd.R_drewN | apply Kd.R_drew)); exact HO_15.out⟩, ⟨by first | exact Kd.S_nil _ _ _ _ _ | exact Kd.N_nil _ _ _ _ _ | exact Kd.V_nil _ _ _ _ _ | exact Kd.Q_nil _ _ _ _ _ | exact Kd.R_nil _ _ _ _ _⟩, ⟨by repeat (first | (with_reducible first | exact HB.out | apply below_alloc | apply pw_below_drewN | apply below_drew1) | exact HB.out)⟩⟩
                    case round =>
                      clear H'
                      try clear c1
                      try clear c2
                      try clear p2
                      try clear c3
                      try clear c3b0
                      try clear p6
                      try clear c7
                      try clear c8
                      try clear c9
                      try clear c10
                      try clear c11
                      try clear c17
                      try clear c17b0
                      try clear c17b1
                      try clear c17b2
                      try clear c19
                      try clear c20
                      try clear c20b0
                      try clear c20b1
                      try clear c20b2
                      try clear c21
                      try clear c21b0
                      try clear c21b1
                      try clear c28
                      try clear c30
                      try clear c31
                      try clear c31b0
                      try clear c32
                      try clear p2
                      try clear p6
                      obtain ⟨x16_3, x107_3, rfl, HA, HK3, HO_5, HO_15, HO_16, HB⟩ := hrel
                      cases gk with
                      | zero => exact absurd HA.out (by simp [laws_FnLeaders.l1])
                      | succ k3 =>
                        have H := HA.out
                        clear HA
                        simp only [laws_FnLeaders.l1] at H
                        by_cases c34 : x107_3 < (t319.length : Int)
                        · rw [if_pos c34] at H
                          have c34b0 : decide (x107_3 < (t319.length : Int)) = true := decide_eq_true c34
                          clear c34
                          obtain ⟨y343, hy343⟩ : ∃ y_ : List Int, y_ = (([] : List Int)) := ⟨_, rfl⟩
                          replace H : (if y343.length + x15_2.length < 17592186044416 then (if x16_3.length < 5864062014805 then (laws_FnLeaders.l1 k3 l1 t319 t333 x15_2 (x16_3 ++ [(y343 ++ x15_2)]) (t319.length : Int) (wrap64 (x107_3 + 1))) else (none)) else (none)) = some r := by first | (rw [hy343]; with_reducible exact H) | (have H2_ := (Option.bind_some _ _).symm.trans H; rw [hy343]; with_reducible exact H2_) | (have H2_ := (Option.bind_some _ _).symm.trans H; with_reducible exact H2_) | with_reducible exact H | (rw [hy343]; exact H) | exact H
                          have Ny343 := Aside0.mk hy343
                          clear hy343
                          by_cases c35 : y343.length + x15_2.length < 17592186044416
                          · rw [if_pos c35] at H
                            have LMc35 := Aside0.mk c35
                            clear c35
                            obtain ⟨y346, hy346⟩ : ∃ y_ : List Int, y_ = (y343 ++ x15_2) := ⟨_, rfl⟩
                            replace H : (if x16_3.length < 5864062014805 then (laws_FnLeaders.l1 k3 l1 t319 t333 x15_2 (x16_3 ++ [y346]) (t319.length : Int) (wrap64 (x107_3 + 1))) else (none)) = some r := by first | (rw [hy346]; with_reducible exact H) | (have H2_ := (Option.bind_some _ _).symm.trans H; rw [hy346]; with_reducible exact H2_) | (have H2_ := (Option.bind_some _ _).symm.trans H; with_reducible exact H2_) | with_reducible exact H | (rw [hy346]; exact H) | exact H
                            have Ny346 := Aside0.mk hy346
                            clear hy346
                            by_cases c36 : x16_3.length < 5864062014805
                            · rw [if_pos c36] at H
                              have LMc36 := Aside0.mk c36
                              clear c36
                              obtain ⟨y349, hy349⟩ : ∃ y_ : List (List Int), y_ = (x16_3 ++ [y346]) := ⟨_, rfl⟩
                              replace H : (laws_FnLeaders.l1 k3 l1 t319 t333 x15_2 y349 (t319.length : Int) (wrap64 (x107_3 + 1))) = some r := by first | (rw [hy349]; with_reducible exact H) | (have H2_ := (Option.bind_some _ _).symm.trans H; rw [hy349]; with_reducible exact H2_) | (have H2_ := (Option.bind_some _ _).symm.trans H; with_reducible exact H2_) | with_reducible exact H | (rw [hy349]; exact H) | exact H
                              have Ny349 := Aside0.mk hy349
                              clear hy349
                              as_aux_lemma =>
                                have H' := Aside0.mk H
                                clear H
                                go_wp2_with (first | ((with_reducible refine gate_dst (N := 110) rfl ?_); refine Kd.R_lit (Kd.int .i64) _ 3 ?hg (N := 110) ?hd (xs := ([] : List Int)) (inner := []) (ok := fun _ => True) (okp := fun _ => True) ?hr ?hp (fun _ hk => hk) trivial (Below.refl _ _) (Nat.le_refl _) (by simp) ?_; (case hd => rfl); (case hg => rfl); (case hr => first | (go_simp; done) | (go_simp; rfl)); (case hp => exact (Reps.none _ _)); intro v344 w37 ho38 hb hg_ hnew_; clear hg_ hnew_; (first | rw [← Ny343.out] at ho38 | (simp only [Int.reduceToNat] at ho38; rw [← Ny343.out] at ho38)); have n0_ := Aside0.mk (Kd.R_below (by (with_reducible repeat (first | apply Kd.R_alloc | apply Kd.R_drewN | apply Kd.R_drew)); exact HO_5.out) hb); have n1_ := Aside0.mk (Kd.R_elder' (by (with_reducible repeat (first | apply Kd.R_alloc | apply Kd.R_drewN | apply Kd.R_drew)); exact HO_15.out) (Kd.R_base ho38) hb); have n2_ := Aside0.mk (Kd.S_elder' (by (with_reducible repeat (first | apply Kd.S_alloc | apply Kd.S_drewN | apply Kd.S_drew)); exact HO_16.out) (Kd.R_base ho38) hb); have n3_ := Aside0.mk (Kd.R_lower (Kd.R_new' ho38 (Kd.R_lt (by (with_reducible repeat (first | apply Kd.R_alloc | apply Kd.R_drewN | apply Kd.R_drew)); exact HO_15.out))) (below_size (by repeat (first | (with_reducible first | exact HB.out | apply below_alloc | apply pw_below_drewN | apply below_drew1) | exact HB.out)))); have n4_ := Aside0.mk (below_step (by repeat (first | (with_reducible first | exact HB.out | apply below_alloc | apply pw_below_drewN | apply below_drew1) | exact HB.out)) hb); clear HO_5; clear HO_15; clear HO_16; clear HB; have HO_5 := n0_; have HO_15 := n1_; have HO_16 := n2_; have HO345 := n3_; have HB := n4_; clear n0_ n1_ n2_ n3_ n4_; clear hb ho38; obtain ⟨Ao40, co40, eo40⟩ := Kd.R_slice HO_15.out; subst eo40) | ((with_reducible refine gate_builtin (b := .append) (xs := #[.tmp 110, .tmp 111]) rfl ?_); at_builtin; refine Kd.R_append_rows (Kd.int .i64) (w0 := w) w.heap.size rfl (.tmp 110) (.tmp 111) 27 3 (.int .i64 0) 8 rfl Try.underlying27 info3 rfl (by decide) (by omega) v344 y343 x15_2 _ _ _ (fun k_ => some k_ ≠ (.slice Ao40 x15_2.length co40 : Value).ownBlock) (fun _ => False) rfl rfl ?aO ?aR (fun _ _ h => h) (fun _ h => h.elim) ?aF ?aB ?aS ?aL ?_; (case aR => repeat (first | exact (Kd.R_reads' HO_15.out).2.2 | (with_reducible refine Kd.C_alloc ?_ _) | (with_reducible refine Kd.C_drewN ?_ _) | (with_reducible refine Kd.C_drew ?_))); (case aB => exact (by repeat (first | (with_reducible first | exact HB.out | apply below_alloc | apply pw_below_drewN | apply below_drew1) | exact HB.out))); (case aF => exact (fun k_ hk => Kd.fresh' (Kd.R_lt (by (with_reducible repeat (first | apply Kd.R_alloc | apply Kd.R_drewN | apply Kd.R_drew)); exact HO_15.out)) k_ hk)); (case aO => exact (by (with_reducible repeat (first | apply Kd.R_alloc | apply Kd.R_drewN | apply Kd.R_drew)); exact Kd.R_mono HO345.out (fun _ hk => hk.2))); (case aS => exact (below_size (by repeat (first | (with_reducible first | exact HB.out | apply below_alloc | apply pw_below_drewN | apply below_drew1) | exact HB.out)))); (case aL => have := LMc35.out; omega); intro v347 w39 ho hb hg hat; rw [← Ny346.out] at ho; have n0_ := Aside0.mk (Kd.R_over' (by (with_reducible repeat (first | apply Kd.R_alloc | apply Kd.R_drewN | apply Kd.R_drew)); exact HO_5.out) (Kd.R_typed (by (with_reducible repeat (first | apply Kd.R_alloc | apply Kd.R_drewN | apply Kd.R_drew)); exact HO345.out)) (by decide) hg); have n1_ := Aside0.mk (Kd.R_after (ok := (fun _ => True)) (by (with_reducible repeat (first | apply Kd.R_alloc | apply Kd.R_drewN | apply Kd.R_drew)); exact HO_15.out) hg hat); have n2_ := Aside0.mk (Kd.S_after (ok := (fun k_ => some k_ ≠ (.slice Ao40 x15_2.length co40 : Value).ownBlock)) (by (with_reducible repeat (first | apply Kd.S_alloc | apply Kd.S_drewN | apply Kd.S_drew)); exact HO_16.out) hg hat); have n3_ := Aside0.mk (hb); have n4_ := Aside0.mk (ho); clear HO_5; clear HO_15; clear HO_16; clear HB; clear HO345; have HO_5 := n0_; have HO_15 := n1_; have HO_16 := n2_; have HB := n3_; have HO348 := n4_; clear n0_ n1_ n2_ n3_ n4_; clear ho hb hg hat; obtain ⟨Ao42, co42, eo42⟩ := Kd.R_slice HO348.out; subst eo42) | ((with_reducible refine gate_builtin (b := .append) (xs := #[.tmp 109, .tmp 113]) rfl ?_); at_builtin; refine Kd.S_append (Kd.slice 3 (Kd.int .i64)) (w0 := w) w.heap.size rfl (.tmp 109) (.tmp 113) 24 27 (.slice none 0 0) 24 rfl Try.underlying24 info27 rfl (by decide) (by omega) u16 x16_3 y346 [.slice Ao42 y346.length co42] (fun k_ => some k_ ≠ (.slice Ao40 x15_2.length co40 : Value).ownBlock) (fun k_ => some k_ = (.slice Ao42 y346.length co42 : Value).ownBlock) rfl rfl ?aP (fun k_ hk_ => ((Kd.R_mono (ok' := fun k_ => ((fun k_ => some k_ ≠ (.slice Ao40 x15_2.length co40 : Value).ownBlock)) k_ ∧ some k_ ≠ (u16 : Value).ownBlock) (Kd.R_apart' (HO348.out) (Kd.S_typed HO_16.out) (by decide)) (fun k_ hk => ⟨hk.1, hk.2⟩))).1 k_ hk_.symm) ?aF ?aO ?aB ?aS ?aL ?_; (case aP => exact Kd.M_row (Kd.R_mono (Kd.R_tight rfl (Kd.R_mono (ok' := fun k_ => ((fun k_ => some k_ ≠ (.slice Ao40 x15_2.length co40 : Value).ownBlock)) k_ ∧ some k_ ≠ (u16 : Value).ownBlock) (Kd.R_apart' (HO348.out) (Kd.S_typed HO_16.out) (by decide)) (fun k_ hk => ⟨hk.1, hk.2⟩))) (fun _ h_ => h_))); (case aB => exact (by repeat (first | (with_reducible first | exact HB.out | apply below_alloc | apply pw_below_drewN | apply below_drew1) | exact HB.out))); (case aF => exact (fun k_ hk => Kd.fresh' (Kd.R_lt (by (with_reducible repeat (first | apply Kd.R_alloc | apply Kd.R_drewN | apply Kd.R_drew)); exact HO_15.out)) k_ hk)); (case aO => exact (by (with_reducible repeat (first | apply Kd.S_alloc | apply Kd.S_drewN | apply Kd.S_drew)); exact Kd.S_mono HO_16.out (fun k_ hk => ⟨hk.1, fun e_ => hk.2 e_⟩))); (case aS => exact (below_size (by repeat (first | (with_reducible first | exact HB.out | apply below_alloc | apply pw_below_drewN | apply below_drew1) | exact HB.out)))); (case aL => have := LMc36.out; omega); intro v350 w41 ho hb hg hat; rw [← Ny349.out] at ho; have n0_ := Aside0.mk (Kd.R_over' (by (with_reducible repeat (first | apply Kd.R_alloc | apply Kd.R_drewN | apply Kd.R_drew)); exact HO_5.out) (Kd.S_typed (by (with_reducible repeat (first | apply Kd.S_alloc | apply Kd.S_drewN | apply Kd.S_drew)); exact HO_16.out)) (by decide) hg); have n1_ := Aside0.mk (Kd.R_over' (by (with_reducible repeat (first | apply Kd.R_alloc | apply Kd.R_drewN | apply Kd.R_drew)); exact HO_15.out) (Kd.S_typed (by (with_reducible repeat (first | apply Kd.S_alloc | apply Kd.S_drewN | apply Kd.S_drew)); exact HO_16.out)) (by decide) hg); have n2_ := Aside0.mk (hb); have n3_ := Aside0.mk (ho); clear HO_5; clear HO_15; clear HB; clear HO_16; clear HO348; have HO_5 := n0_; have HO_15 := n1_; have HB := n2_; have HO351 := n3_; clear n0_ n1_ n2_ n3_; clear ho hb hg hat))
                                go_roundg k3
                                case measure => have := HJ8.out; have := HK2.out; have := HK3.out; omega
                                case rel => exact ⟨(y349), (wrap64 (x107_3 + 1)), (by first | rfl | (simp; done) | (simp [*]; done)), H', ⟨by have := HJ8.out; have := HK2.out; have := HK3.out; omega⟩, ⟨by (with_reducible repeat (first | apply Kd.R_alloc | apply Kd.R_drewN | apply Kd.R_drew)); exact HO_5.out⟩, ⟨by (with_reducible repeat (first | apply Kd.R_alloc | apply Kd.R_drewN | apply Kd.R_drew)); exact Kd.R_mono HO_15.out (fun _ hk => trivial)⟩, ⟨by (with_reducible repeat (first | apply Kd.S_alloc | apply Kd.S_drewN | apply Kd.S_drew)); exact HO351.out⟩, ⟨by repeat (first | (with_reducible first | exact HB.out | apply below_alloc | apply pw_below_drewN | apply below_drew1) | exact HB.out)⟩⟩
                            · rw [if_neg c36] at H
                              exact absurd H (by simp)
                          · rw [if_neg c35] at H
                            exact absurd H (by simp)
                        · rw [if_neg c34] at H
                          have c34b0 : decide (x107_3 < (t319.length : Int)) = false := decide_eq_false c34
                          clear c34
                          replace H := Option.bind_eq_some_iff.mp H
                          obtain ⟨⟨t352, t353⟩, A430, H⟩ := H
                          replace H : (if t353 = true then (if 0 < (t319.length : Int) then (laws_FnLeaders.l2 k3 l1 t319 t333 t352 t319 (t319.length : Int) 0 ((rd_T35 t319 0).f0) ((rd_T35 t319 0).f1) ((rd_T35 t319 0).f2)) else (none)) else (none)) = some r := H
                          have A43 := Aside0.mk A430
                          clear A430
                          by_cases c44 : t353 = true
                          · subst c44
                            have H1 : (if 0 < (t319.length : Int) then (laws_FnLeaders.l2 k3 l1 t319 t333 t352 t319 (t319.length : Int) 0 ((rd_T35 t319 0).f0) ((rd_T35 t319 0).f1) ((rd_T35 t319 0).f2)) else (none)) = some r := by rw [if_pos rfl] at H; exact H
                            clear H
                            have H := H1
                            clear H1
                            by_cases c45 : 0 < (t319.length : Int)
                            · rw [if_pos c45] at H
                              have c45b0 : decide (0 < (t319.length : Int)) = true := decide_eq_true c45
                              have c45b1 : decide (0 < t319.length) = true := decide_eq_true (by omega)
                              clear c45
                              have H' := Aside0.mk H
                              clear H
                              obtain ⟨Ao46, co46, eo46⟩ := Kd.S_slice HO_16.out
                              subst eo46
                              go_wp2_with (first | ((with_reducible refine gate_callee (f := 8) rfl ?_); refine goesL_ (some 119) rfl rfl Try.func8 (by kernel_rfl) rfl #[.slice Ao11 t319.length co11, .slice Ao46 x16_3.length co46] rfl (by (try simp only [List.map_toArray, List.map_cons, List.map_nil]); first | done | rfl | (simp only [List.length_drop, List.length_take]; rfl)) ?_; (with_reducible refine (impl_LeadersBy.calls k3 _ _ t319 _ _ x16_3 t352 true _ ?side1 ?side2 ?side3 ?side4 A43.out).mono ?_); (case side1 => repeat (first | exact (Kd.R_reads' HO_5.out).2.2 | (with_reducible refine Kd.C_alloc ?_ _) | (with_reducible refine Kd.C_drewN ?_ _) | (with_reducible refine Kd.C_drew ?_))); (case side2 => exact (Kd.R_reads' HO_5.out).2.1); (case side3 => repeat (first | exact (Kd.S_reads' HO_16.out).2.2 | (with_reducible refine Kd.C_alloc ?_ _) | (with_reducible refine Kd.C_drewN ?_ _) | (with_reducible refine Kd.C_drew ?_))); (case side4 => exact (Kd.S_reads' HO_16.out).2.1); rintro e w47 ⟨v354, rfl, ho0, hb⟩; refine ⟨_, rfl, ?_⟩; have n0_ := Aside0.mk (Kd.R_below (by (with_reducible repeat (first | apply Kd.R_alloc | apply Kd.R_drewN | apply Kd.R_drew)); exact HO_5.out) hb); have n1_ := Aside0.mk (Kd.R_elder' (by (with_reducible repeat (first | apply Kd.R_alloc | apply Kd.R_drewN | apply Kd.R_drew)); exact HO_15.out) (Kd.R_base ho0) hb); have n2_ := Aside0.mk (Kd.S_elder' (by (with_reducible repeat (first | apply Kd.S_alloc | apply Kd.S_drewN | apply Kd.S_drew)); exact HO_16.out) (Kd.R_base ho0) hb); have n3_ := Aside0.mk (Kd.R_lower (Kd.R_new' ho0 (Kd.R_lt (by (with_reducible repeat (first | apply Kd.R_alloc | apply Kd.R_drewN | apply Kd.R_drew)); exact HO_15.out))) (below_size (by repeat (first | (with_reducible first | exact HB.out | apply below_alloc | apply pw_below_drewN | apply below_drew1) | exact HB.out)))); have n4_ := Aside0.mk (below_step (by repeat (first | (with_reducible first | exact HB.out | apply below_alloc | apply pw_below_drewN | apply below_drew1) | exact HB.out)) hb); clear HO_5; clear HO_15; clear HO_16; clear HB; have HO_5 := n0_; have HO_15 := n1_; have HO_16 := n2_; have HO355 := n3_; have HB := n4_; clear n0_ n1_ n2_ n3_ n4_; (try clear hb); (try clear hb2); (try clear hk); (try clear hi); (try clear ho0); have p356 : 0 ≤ (0 : Int) := (by omega); have q356 : 0 < (t319.length : Int) := of_decide_eq_true (by first | (with_reducible assumption) | assumption); obtain ⟨ad356, e356, hx356_0, hx356_1, hx356_2⟩ := at_T35 (Kd.R_reads' HO_5.out).2.2 0 p356 q356; cases e356; have qi356 : (0 < t319.length) = True := eq_true (by omega); (try rw [show ((0 : Int)).toNat = 0 from rfl] at hx356_0); (try rw [show 0 * 3 = 0 from rfl] at hx356_0); (try rw [Addr.add_zero'] at hx356_0); (try rw [show ((0 : Int)).toNat = 0 from rfl] at hx356_1); (try rw [show 0 * 3 = 0 from rfl] at hx356_1); (try rw [Addr.add_zero'] at hx356_1); (try rw [show ((0 : Int)).toNat = 0 from rfl] at hx356_2); (try rw [show 0 * 3 = 0 from rfl] at hx356_2); (try rw [Addr.add_zero'] at hx356_2); replace p356 := eq_true p356; replace q356 := eq_true q356) | ((with_reducible refine gate_dst (N := 20) rfl ?_); refine box_event ?hg (N := 20) ?hd (cs := #[.int .i64 0, .int .i64 0, .bool false]) (t := 35) ?hr ?_; (case hd => rfl); (case hg => rfl); (case hr => first | (go_simp; done) | (go_simp; rfl)); intro gb357 hg w48 hbox hb; have n0_ := Aside0.mk (Kd.R_below (Kd.R_elderB (by (with_reducible repeat (first | apply Kd.R_alloc | apply Kd.R_drewN | apply Kd.R_drew)); exact HO_5.out) gb357 (Nat.le_of_eq hg.symm)) hb); have n1_ := Aside0.mk (Kd.R_below (by (with_reducible repeat (first | apply Kd.R_alloc | apply Kd.R_drewN | apply Kd.R_drew)); exact HO_15.out) hb); have n2_ := Aside0.mk (Kd.S_below (by (with_reducible repeat (first | apply Kd.S_alloc | apply Kd.S_drewN | apply Kd.S_drew)); exact HO_16.out) hb); have n3_ := Aside0.mk (Kd.R_below (by (with_reducible repeat (first | apply Kd.R_alloc | apply Kd.R_drewN | apply Kd.R_drew)); exact HO355.out) hb); have n4_ := Aside0.mk (below_step (by repeat (first | (with_reducible first | exact HB.out | apply below_alloc | apply pw_below_drewN | apply below_drew1) | exact HB.out)) hb); have n5_ := Aside0.mk (hbox); have n6_ := Aside0.mk ((by rw [hg]; exact (below_size (by repeat (first | (with_reducible first | exact HB.out | apply below_alloc | apply pw_below_drewN | apply below_drew1) | exact HB.out))) : w.heap.size ≤ gb357)); have n7_ := Aside0.mk ((by rw [hg]; exact (below_size (by repeat (first | (with_reducible first | exact HB.out | apply below_alloc | apply pw_below_drewN | apply below_drew1) | exact HB.out))) : w.heap.size ≤ gb357)); clear HO_5; clear HO_15; clear HO_16; clear HO355; clear HB; have HO_5 := n0_; have HO_15 := n1_; have HO_16 := n2_; have HO355 := n3_; have HB := n4_; have BK357 := n5_; have GW357 := n6_; have GE357 := n7_; clear n0_ n1_ n2_ n3_ n4_ n5_ n6_ n7_; clear hb hbox hg; have hcz49_0 : w48.cell? ⟨gb357, 0, none⟩ = some (.int .i64 0) := (blk_cell BK357.out 0).trans rfl; have hcz49_1 : w48.cell? ⟨gb357, 1, none⟩ = some (.int .i64 0) := (blk_cell BK357.out 1).trans rfl; have hcz49_2 : w48.cell? ⟨gb357, 2, none⟩ = some (.bool false) := (blk_cell BK357.out 2).trans rfl; have hfz49_0 := blk_frozen BK357.out 0; have hfz49_1 := blk_frozen BK357.out 1; have hfz49_2 := blk_frozen BK357.out 2))
                              go_loopg [129] k3 (fun kq v129 w' => ∃ (x129_4 : Int) (x358000_4 : Int) (x358001_4 : Int) (x358002_4 : Bool), v129 = .int .i64 x129_4 ∧ Aside0 (laws_FnLeaders.l2 kq l1 t319 t333 t352 t319 (t319.length : Int) x129_4 x358000_4 x358001_4 x358002_4 = some r) ∧ Aside0 (kq ≤ k3) ∧ Aside0 (Kd.R k35 35 w' w.heap.size (fun k_ => k_ ≠ gb357) (.slice (some ad356) t319.length co11) t319) ∧ Aside0 (Kd.R (Kd.int .i64) 3 w' w.heap.size (fun _ => True) v354 t352) ∧ Aside0 (Kd.R k35 35 w' w.heap.size (fun k_ => k_ ≠ gb357) (.slice (some ad356) t319.length co11) t319) ∧ Aside0 (w'.heap[gb357]? = some (.cells #[.int .i64 x358000_4, .int .i64 x358001_4, .bool x358002_4] 35 (0, 0))) ∧ Aside0 (Below w.heap.size w w'))
                              case atStart => exact ⟨(0), ((rd_T35 t319 0).f0), ((rd_T35 t319 0).f1), ((rd_T35 t319 0).f2), (by first | rfl | (simp; done) | (simp [*]; done)), H', ⟨Nat.le_refl _⟩, ⟨by (with_reducible repeat (first | apply Kd.R_alloc | apply Kd.R_drewN | apply Kd.R_drew)); exact Kd.R_mono (Kd.R_far (p := ⟨gb357, 2, none⟩) (Kd.R_far (p := ⟨gb357, 1, none⟩) (Kd.R_far (p := ⟨gb357, 0, none⟩) (Kd.R_mono HO_5.out (fun k_ hk => (⟨hk, hk.2⟩ : _ ∧ k_ ≠ gb357))) (fun _ hk => hk.2) (.int .i64 ((rd_T35 t319 0).f0))) (fun _ hk => hk.2) (.int .i64 ((rd_T35 t319 0).f1))) (fun _ hk => hk.2) (.bool ((rd_T35 t319 0).f2))) (fun _ hk => hk.1.2)⟩, ⟨by (with_reducible repeat (first | apply Kd.R_alloc | apply Kd.R_drewN | apply Kd.R_drew)); exact Kd.R_mono (Kd.R_far (p := ⟨gb357, 2, none⟩) (Kd.R_far (p := ⟨gb357, 1, none⟩) (Kd.R_far (p := ⟨gb357, 0, none⟩) (Kd.R_types HO355.out BK357.out (by decide)) (fun _ hk => hk.2) (.int .i64 ((rd_T35 t319 0).f0))) (fun _ hk => hk.2) (.int .i64 ((rd_T35 t319 0).f1))) (fun _ hk => hk.2) (.bool ((rd_T35 t319 0).f2))) (fun _ hk => trivial)⟩, ⟨by (with_reducible repeat (first | apply Kd.R_alloc | apply Kd.R_drewN | apply Kd.R_drew)); exact Kd.R_mono (Kd.R_far (p := ⟨gb357, 2, none⟩) (Kd.R_far (p := ⟨gb357, 1, none⟩) (Kd.R_far (p := ⟨gb357, 0, none⟩) (Kd.R_mono HO_5.out (fun k_ hk => (⟨hk, hk.2⟩ : _ ∧ k_ ≠ gb357))) (fun _ hk => hk.2) (.int .i64 ((rd_T35 t319 0).f0))) (fun _ hk => hk.2) (.int .i64 ((rd_T35 t319 0).f1))) (fun _ hk => hk.2) (.bool ((rd_T35 t319 0).f2))) (fun _ hk => hk.1.2)⟩, ⟨by (with_reducible repeat (first | refine blk_drewN ?_ _ | refine blk_drew ?_ | refine blk_alloc ?_ _)); refine blk_put (cs := #[.int .i64 ((rd_T35 t319 0).f0), .int .i64 ((rd_T35 t319 0).f1), .bool false]) ?_ 2 _ rfl; (with_reducible repeat (first | refine blk_drewN ?_ _ | refine blk_drew ?_ | refine blk_alloc ?_ _)); refine blk_put (cs := #[.int .i64 ((rd_T35 t319 0).f0), .int .i64 0, .bool false]) ?_ 1 _ rfl; (with_reducible repeat (first | refine blk_drewN ?_ _ | refine blk_drew ?_ | refine blk_alloc ?_ _)); refine blk_put (cs := #[.int .i64 0, .int .i64 0, .bool false]) ?_ 0 _ rfl; (with_reducible repeat (first | refine blk_drewN ?_ _ | refine blk_drew ?_ | refine blk_alloc ?_ _)); exact BK357.out⟩, ⟨by repeat (first | (with_reducible first | exact HB.out | apply below_alloc | apply pw_below_drewN | apply below_drew1 | refine below_set ?_ GE357.out) | exact HB.out)⟩⟩
                              case round =>
                                clear H'
                                try clear c1
                                try clear c2
                                try clear p2
                                try clear c3
                                try clear c3b0
                                try clear p3
                                try clear q3
                                try clear hx3
                                try clear qi3
                                try clear c4
                                try clear p6
                                try clear c7
                                try clear c8
                                try clear c9
                                try clear c10
                                try clear c11
                                try clear c17
                                try clear c17b0
                                try clear c17b1
                                try clear c17b2
                                try clear c19
                                try clear c20
                                try clear c20b0
                                try clear c20b1
                                try clear c20b2
                                try clear c21
                                try clear c21b0
                                try clear c21b1
                                try clear c28
                                try clear c30
                                try clear c31
                                try clear c31b0
                                try clear c32
                                try clear c34
                                try clear c34b0
                                try clear c35
                                try clear p35
                                try clear q35
                                try clear hx35
                                try clear qi35
                                try clear c36
                                try clear c44
                                try clear c45
                                try clear c45b0
                                try clear c45b1
                                try clear hcz49_0
                                try clear hcz49_1
                                try clear hcz49_2
                                try clear hfz49_0
                                try clear hfz49_1
                                try clear hfz49_2
                                try clear hx356_0
                                try clear hx356_1
                                try clear hx356_2
                                try clear p2
                                try clear p356
                                try clear p6
                                try clear q356
                                obtain ⟨x129_4, x358000_4, x358001_4, x358002_4, rfl, HA, HK4, HO_5, HO_18, HO_127, BK357, HB⟩ := hrel
                                cases gk with
                                | zero => exact absurd HA.out (by simp [laws_FnLeaders.l2])
                                | succ k4 =>
                                  have H := HA.out
                                  clear HA
                                  simp only [laws_FnLeaders.l2] at H
                                  by_cases c50 : x129_4 < (t319.length : Int)
                                  · rw [if_pos c50] at H
                                    have c50b0 : decide (x129_4 < (t319.length : Int)) = true := decide_eq_true c50
                                    clear c50
                                    by_cases c51 : 0 ≤ x129_4
                                    · rw [if_pos c51] at H
                                      have c51b0 : decide (0 ≤ x129_4) = true := decide_eq_true c51
                                      clear c51
                                      by_cases c52 : x129_4 < (t319.length : Int)
                                      · rw [if_pos c52] at H
                                        have c52b0 : decide (x129_4 < (t319.length : Int)) = true := decide_eq_true c52
                                        clear c52
                                        by_cases c53 : ((rd_T35 t319 x129_4).f0) = t333
                                        · rw [if_pos c53] at H
                                          have c53b0 : (((rd_T35 t319 x129_4).f0) == t333) = true := beq_iff_eq.mpr c53
                                          have c53b1 : (((rd_T35 t319 x129_4).f0) != t333) = false := bne_eq_false_iff_eq.mpr c53
                                          clear c53
                                          as_aux_lemma =>
                                            have H' := Aside0.mk H
                                            clear H
                                            have p358 : 0 ≤ (x129_4 : Int) := of_decide_eq_true (by first | (with_reducible assumption) | assumption)
                                            have q358 : x129_4 < (t319.length : Int) := of_decide_eq_true (by first | (with_reducible assumption) | assumption)
                                            obtain ⟨ad358, e358, hx358_0, hx358_1, hx358_2⟩ := at_T35 (Kd.R_reads' HO_127.out).2.2 x129_4 p358 q358
                                            obtain rfl : ad356 = ad358 := (by injection e358)
                                            replace p358 := eq_true p358
                                            replace q358 := eq_true q358
                                            go_wp2_with (first | ((with_reducible refine gate_dst (N := 22) rfl ?_); refine box_event ?hg (N := 22) ?hd (cs := #[.int .i64 0, .int .i64 0, .bool false]) (t := 35) ?hr ?_; (case hd => rfl); (case hg => rfl); (case hr => first | (go_simp; done) | (go_simp; rfl)); intro gb359 hg w54 hbox hb; have n0_ := Aside0.mk (Kd.R_below (Kd.R_elderB (by (with_reducible repeat (first | apply Kd.R_alloc | apply Kd.R_drewN | apply Kd.R_drew)); exact HO_5.out) gb359 (Nat.le_of_eq hg.symm)) hb); have n1_ := Aside0.mk (Kd.R_below (by (with_reducible repeat (first | apply Kd.R_alloc | apply Kd.R_drewN | apply Kd.R_drew)); exact HO_18.out) hb); have n2_ := Aside0.mk (Kd.R_below (Kd.R_elderB (by (with_reducible repeat (first | apply Kd.R_alloc | apply Kd.R_drewN | apply Kd.R_drew)); exact HO_127.out) gb359 (Nat.le_of_eq hg.symm)) hb); have n3_ := Aside0.mk (blk_below (g := gb357) (o := .cells #[.int .i64 x358000_4, .int .i64 x358001_4, .bool x358002_4] 35 (0, 0)) (by (with_reducible repeat (first | refine blk_drewN ?_ _ | refine blk_drew ?_ | refine blk_alloc ?_ _)); exact BK357.out) hb); have n4_ := Aside0.mk (below_step (by repeat (first | (with_reducible first | exact HB.out | apply below_alloc | apply pw_below_drewN | apply below_drew1 | refine below_set ?_ GE357.out) | exact HB.out)) hb); have n5_ := Aside0.mk (hbox); have n6_ := Aside0.mk ((by rw [hg]; exact (below_size (by repeat (first | (with_reducible first | exact HB.out | apply below_alloc | apply pw_below_drewN | apply below_drew1 | refine below_set ?_ GE357.out) | exact HB.out))) : w.heap.size ≤ gb359)); have n7_ := Aside0.mk ((by rw [hg]; exact (below_size (by repeat (first | (with_reducible first | exact HB.out | apply below_alloc | apply pw_below_drewN | apply below_drew1 | refine below_set ?_ GE357.out) | exact HB.out))) : w.heap.size ≤ gb359)); have n8_ := Aside0.mk ((by rw [hg]; exact Nat.ne_of_lt (blk_lt (g := gb357) (o := .cells #[.int .i64 x358000_4, .int .i64 x358001_4, .bool x358002_4] 35 (0, 0)) (by (with_reducible repeat (first | refine blk_drewN ?_ _ | refine blk_drew ?_ | refine blk_alloc ?_ _)); exact BK357.out)) : gb357 ≠ gb359)); have n9_ := Aside0.mk ((by rw [hg]; exact Nat.ne_of_gt (blk_lt (g := gb357) (o := .cells #[.int .i64 x358000_4, .int .i64 x358001_4, .bool x358002_4] 35 (0, 0)) (by (with_reducible repeat (first | refine blk_drewN ?_ _ | refine blk_drew ?_ | refine blk_alloc ?_ _)); exact BK357.out)) : gb359 ≠ gb357)); clear HO_5; clear HO_18; clear HO_127; clear BK357; clear HB; have HO_5 := n0_; have HO_18 := n1_; have HO_127 := n2_; have BK357 := n3_; have HB := n4_; have BK359 := n5_; have GW359 := n6_; have GE359 := n7_; have NB357_359 := n8_; have NB359_357 := n9_; clear n0_ n1_ n2_ n3_ n4_ n5_ n6_ n7_ n8_ n9_; clear hb hbox hg; have hnb55 := NB359_357.out; have hnc55 := NB357_359.out; have hcz56_0 : w54.cell? ⟨gb359, 0, none⟩ = some (.int .i64 0) := (blk_cell BK359.out 0).trans rfl; have hcz56_1 : w54.cell? ⟨gb359, 1, none⟩ = some (.int .i64 0) := (blk_cell BK359.out 1).trans rfl; have hcz56_2 : w54.cell? ⟨gb359, 2, none⟩ = some (.bool false) := (blk_cell BK359.out 2).trans rfl; have hfz56_0 := blk_frozen BK359.out 0; have hfz56_1 := blk_frozen BK359.out 1; have hfz56_2 := blk_frozen BK359.out 2; have hcz57_0 : w54.cell? ⟨gb357, 0, none⟩ = some (.int .i64 x358000_4) := (blk_cell BK357.out 0).trans rfl; have hcz57_1 : w54.cell? ⟨gb357, 1, none⟩ = some (.int .i64 x358001_4) := (blk_cell BK357.out 1).trans rfl; have hcz57_2 : w54.cell? ⟨gb357, 2, none⟩ = some (.bool x358002_4) := (blk_cell BK357.out 2).trans rfl; have hfz57_0 := blk_frozen BK357.out 0; have hfz57_1 := blk_frozen BK357.out 1; have hfz57_2 := blk_frozen BK357.out 2))
                                            go_roundg k4
                                            case measure => have := HJ8.out; have := HK2.out; have := HK3.out; have := HK4.out; omega
                                            case rel => exact ⟨(wrap64 (x129_4 + 1)), ((rd_T35 t319 x129_4).f0), ((rd_T35 t319 x129_4).f1), ((rd_T35 t319 x129_4).f2), (by first | rfl | (simp; done) | (simp [*]; done)), H', ⟨by have := HJ8.out; have := HK2.out; have := HK3.out; have := HK4.out; omega⟩, ⟨by (with_reducible repeat (first | apply Kd.R_alloc | apply Kd.R_drewN | apply Kd.R_drew)); exact Kd.R_mono (Kd.R_far (p := ⟨gb357, 2, none⟩) (Kd.R_far (p := ⟨gb357, 1, none⟩) (Kd.R_far (p := ⟨gb357, 0, none⟩) (Kd.R_far (p := ⟨gb359, 2, none⟩) (Kd.R_far (p := ⟨gb359, 1, none⟩) (Kd.R_far (p := ⟨gb359, 0, none⟩) (Kd.R_mono (Kd.R_mono HO_5.out (fun k_ hk => (⟨hk, hk.2⟩ : _ ∧ k_ ≠ gb359))) (fun k_ hk => (⟨hk, hk.1.1⟩ : _ ∧ k_ ≠ gb357))) (fun _ hk => hk.1.2) (.int .i64 ((rd_T35 t319 x129_4).f0))) (fun _ hk => hk.1.2) (.int .i64 ((rd_T35 t319 x129_4).f1))) (fun _ hk => hk.1.2) (.bool ((rd_T35 t319 x129_4).f2))) (fun _ hk => hk.2) (.int .i64 ((rd_T35 t319 x129_4).f0))) (fun _ hk => hk.2) (.int .i64 ((rd_T35 t319 x129_4).f1))) (fun _ hk => hk.2) (.bool ((rd_T35 t319 x129_4).f2))) (fun _ hk => hk.1.1.1)⟩, ⟨by (with_reducible repeat (first | apply Kd.R_alloc | apply Kd.R_drewN | apply Kd.R_drew)); exact Kd.R_mono (Kd.R_far (p := ⟨gb357, 2, none⟩) (Kd.R_far (p := ⟨gb357, 1, none⟩) (Kd.R_far (p := ⟨gb357, 0, none⟩) (Kd.R_far (p := ⟨gb359, 2, none⟩) (Kd.R_far (p := ⟨gb359, 1, none⟩) (Kd.R_far (p := ⟨gb359, 0, none⟩) (Kd.R_types (Kd.R_types HO_18.out BK359.out (by decide)) BK357.out (by decide)) (fun _ hk => hk.1.2) (.int .i64 ((rd_T35 t319 x129_4).f0))) (fun _ hk => hk.1.2) (.int .i64 ((rd_T35 t319 x129_4).f1))) (fun _ hk => hk.1.2) (.bool ((rd_T35 t319 x129_4).f2))) (fun _ hk => hk.2) (.int .i64 ((rd_T35 t319 x129_4).f0))) (fun _ hk => hk.2) (.int .i64 ((rd_T35 t319 x129_4).f1))) (fun _ hk => hk.2) (.bool ((rd_T35 t319 x129_4).f2))) (fun _ hk => trivial)⟩, ⟨by (with_reducible repeat (first | apply Kd.R_alloc | apply Kd.R_drewN | apply Kd.R_drew)); exact Kd.R_mono (Kd.R_far (p := ⟨gb357, 2, none⟩) (Kd.R_far (p := ⟨gb357, 1, none⟩) (Kd.R_far (p := ⟨gb357, 0, none⟩) (Kd.R_far (p := ⟨gb359, 2, none⟩) (Kd.R_far (p := ⟨gb359, 1, none⟩) (Kd.R_far (p := ⟨gb359, 0, none⟩) (Kd.R_mono (Kd.R_mono HO_127.out (fun k_ hk => (⟨hk, hk.2⟩ : _ ∧ k_ ≠ gb359))) (fun k_ hk => (⟨hk, hk.1.1⟩ : _ ∧ k_ ≠ gb357))) (fun _ hk => hk.1.2) (.int .i64 ((rd_T35 t319 x129_4).f0))) (fun _ hk => hk.1.2) (.int .i64 ((rd_T35 t319 x129_4).f1))) (fun _ hk => hk.1.2) (.bool ((rd_T35 t319 x129_4).f2))) (fun _ hk => hk.2) (.int .i64 ((rd_T35 t319 x129_4).f0))) (fun _ hk => hk.2) (.int .i64 ((rd_T35 t319 x129_4).f1))) (fun _ hk => hk.2) (.bool ((rd_T35 t319 x129_4).f2))) (fun _ hk => hk.1.1.1)⟩, ⟨by (with_reducible repeat (first | refine blk_drewN ?_ _ | refine blk_drew ?_ | refine blk_alloc ?_ _)); refine blk_put (cs := #[.int .i64 ((rd_T35 t319 x129_4).f0), .int .i64 ((rd_T35 t319 x129_4).f1), .bool x358002_4]) ?_ 2 _ rfl; (with_reducible repeat (first | refine blk_drewN ?_ _ | refine blk_drew ?_ | refine blk_alloc ?_ _)); refine blk_put (cs := #[.int .i64 ((rd_T35 t319 x129_4).f0), .int .i64 x358001_4, .bool x358002_4]) ?_ 1 _ rfl; (with_reducible repeat (first | refine blk_drewN ?_ _ | refine blk_drew ?_ | refine blk_alloc ?_ _)); refine blk_put (cs := #[.int .i64 x358000_4, .int .i64 x358001_4, .bool x358002_4]) ?_ 0 _ rfl; (with_reducible repeat (first | refine blk_drewN ?_ _ | refine blk_drew ?_ | refine blk_alloc ?_ _)); refine blk_far ?_ NB357_359.out _; (with_reducible repeat (first | refine blk_drewN ?_ _ | refine blk_drew ?_ | refine blk_alloc ?_ _)); refine blk_far ?_ NB357_359.out _; (with_reducible repeat (first | refine blk_drewN ?_ _ | refine blk_drew ?_ | refine blk_alloc ?_ _)); refine blk_far ?_ NB357_359.out _; (with_reducible repeat (first | refine blk_drewN ?_ _ | refine blk_drew ?_ | refine blk_alloc ?_ _)); exact BK357.out⟩, ⟨by repeat (first | (with_reducible first | exact HB.out | apply below_alloc | apply pw_below_drewN | apply below_drew1 | refine below_set ?_ GE357.out | refine below_set ?_ GE359.out) | exact HB.out)⟩⟩
                                        · rw [if_neg c53] at H
                                          have c53b0 : (((rd_T35 t319 x129_4).f0) == t333) = false := beq_eq_false_iff_ne.mpr c53
                                          have c53b1 : (((rd_T35 t319 x129_4).f0) != t333) = true := bne_iff_ne.mpr c53
                                          as_aux_lemma =>
                                            have H' := Aside0.mk H
                                            clear H
                                            have p358 : 0 ≤ (x129_4 : Int) := of_decide_eq_true (by first | (with_reducible assumption) | assumption)
                                            have q358 : x129_4 < (t319.length : Int) := of_decide_eq_true (by first | (with_reducible assumption) | assumption)
                                            obtain ⟨ad358, e358, hx358_0, hx358_1, hx358_2⟩ := at_T35 (Kd.R_reads' HO_127.out).2.2 x129_4 p358 q358
                                            obtain rfl : ad356 = ad358 := (by injection e358)
                                            replace p358 := eq_true p358
                                            replace q358 := eq_true q358
                                            go_wp2_with (first | ((with_reducible refine gate_dst (N := 22) rfl ?_); refine box_event ?hg (N := 22) ?hd (cs := #[.int .i64 0, .int .i64 0, .bool false]) (t := 35) ?hr ?_; (case hd => rfl); (case hg => rfl); (case hr => first | (go_simp; done) | (go_simp; rfl)); intro gb359 hg w58 hbox hb; have n0_ := Aside0.mk (Kd.R_below (Kd.R_elderB (by (with_reducible repeat (first | apply Kd.R_alloc | apply Kd.R_drewN | apply Kd.R_drew)); exact HO_5.out) gb359 (Nat.le_of_eq hg.symm)) hb); have n1_ := Aside0.mk (Kd.R_below (by (with_reducible repeat (first | apply Kd.R_alloc | apply Kd.R_drewN | apply Kd.R_drew)); exact HO_18.out) hb); have n2_ := Aside0.mk (Kd.R_below (Kd.R_elderB (by (with_reducible repeat (first | apply Kd.R_alloc | apply Kd.R_drewN | apply Kd.R_drew)); exact HO_127.out) gb359 (Nat.le_of_eq hg.symm)) hb); have n3_ := Aside0.mk (blk_below (g := gb357) (o := .cells #[.int .i64 x358000_4, .int .i64 x358001_4, .bool x358002_4] 35 (0, 0)) (by (with_reducible repeat (first | refine blk_drewN ?_ _ | refine blk_drew ?_ | refine blk_alloc ?_ _)); exact BK357.out) hb); have n4_ := Aside0.mk (below_step (by repeat (first | (with_reducible first | exact HB.out | apply below_alloc | apply pw_below_drewN | apply below_drew1 | refine below_set ?_ GE357.out) | exact HB.out)) hb); have n5_ := Aside0.mk (hbox); have n6_ := Aside0.mk ((by rw [hg]; exact (below_size (by repeat (first | (with_reducible first | exact HB.out | apply below_alloc | apply pw_below_drewN | apply below_drew1 | refine below_set ?_ GE357.out) | exact HB.out))) : w.heap.size ≤ gb359)); have n7_ := Aside0.mk ((by rw [hg]; exact (below_size (by repeat (first | (with_reducible first | exact HB.out | apply below_alloc | apply pw_below_drewN | apply below_drew1 | refine below_set ?_ GE357.out) | exact HB.out))) : w.heap.size ≤ gb359)); have n8_ := Aside0.mk ((by rw [hg]; exact Nat.ne_of_lt (blk_lt (g := gb357) (o := .cells #[.int .i64 x358000_4, .int .i64 x358001_4, .bool x358002_4] 35 (0, 0)) (by (with_reducible repeat (first | refine blk_drewN ?_ _ | refine blk_drew ?_ | refine blk_alloc ?_ _)); exact BK357.out)) : gb357 ≠ gb359)); have n9_ := Aside0.mk ((by rw [hg]; exact Nat.ne_of_gt (blk_lt (g := gb357) (o := .cells #[.int .i64 x358000_4, .int .i64 x358001_4, .bool x358002_4] 35 (0, 0)) (by (with_reducible repeat (first | refine blk_drewN ?_ _ | refine blk_drew ?_ | refine blk_alloc ?_ _)); exact BK357.out)) : gb359 ≠ gb357)); clear HO_5; clear HO_18; clear HO_127; clear BK357; clear HB; have HO_5 := n0_; have HO_18 := n1_; have HO_127 := n2_; have BK357 := n3_; have HB := n4_; have BK359 := n5_; have GW359 := n6_; have GE359 := n7_; have NB357_359 := n8_; have NB359_357 := n9_; clear n0_ n1_ n2_ n3_ n4_ n5_ n6_ n7_ n8_ n9_; clear hb hbox hg; have hnb59 := NB359_357.out; have hnc59 := NB357_359.out; have hcz60_0 : w58.cell? ⟨gb359, 0, none⟩ = some (.int .i64 0) := (blk_cell BK359.out 0).trans rfl; have hcz60_1 : w58.cell? ⟨gb359, 1, none⟩ = some (.int .i64 0) := (blk_cell BK359.out 1).trans rfl; have hcz60_2 : w58.cell? ⟨gb359, 2, none⟩ = some (.bool false) := (blk_cell BK359.out 2).trans rfl; have hfz60_0 := blk_frozen BK359.out 0; have hfz60_1 := blk_frozen BK359.out 1; have hfz60_2 := blk_frozen BK359.out 2))
                                            go_roundg k4
                                            case measure => have := HJ8.out; have := HK2.out; have := HK3.out; have := HK4.out; omega
                                            case rel => exact ⟨(wrap64 (x129_4 + 1)), (x358000_4), (x358001_4), (x358002_4), (by first | rfl | (simp; done) | (simp [*]; done)), H', ⟨by have := HJ8.out; have := HK2.out; have := HK3.out; have := HK4.out; omega⟩, ⟨by (with_reducible repeat (first | apply Kd.R_alloc | apply Kd.R_drewN | apply Kd.R_drew)); exact Kd.R_mono (Kd.R_far (p := ⟨gb359, 2, none⟩) (Kd.R_far (p := ⟨gb359, 1, none⟩) (Kd.R_far (p := ⟨gb359, 0, none⟩) (Kd.R_mono HO_5.out (fun k_ hk => (⟨hk, hk.2⟩ : _ ∧ k_ ≠ gb359))) (fun _ hk => hk.2) (.int .i64 ((rd_T35 t319 x129_4).f0))) (fun _ hk => hk.2) (.int .i64 ((rd_T35 t319 x129_4).f1))) (fun _ hk => hk.2) (.bool ((rd_T35 t319 x129_4).f2))) (fun _ hk => hk.1.1)⟩, ⟨by (with_reducible repeat (first | apply Kd.R_alloc | apply Kd.R_drewN | apply Kd.R_drew)); exact Kd.R_mono (Kd.R_far (p := ⟨gb359, 2, none⟩) (Kd.R_far (p := ⟨gb359, 1, none⟩) (Kd.R_far (p := ⟨gb359, 0, none⟩) (Kd.R_types HO_18.out BK359.out (by decide)) (fun _ hk => hk.2) (.int .i64 ((rd_T35 t319 x129_4).f0))) (fun _ hk => hk.2) (.int .i64 ((rd_T35 t319 x129_4).f1))) (fun _ hk => hk.2) (.bool ((rd_T35 t319 x129_4).f2))) (fun _ hk => trivial)⟩, ⟨by (with_reducible repeat (first | apply Kd.R_alloc | apply Kd.R_drewN | apply Kd.R_drew)); exact Kd.R_mono (Kd.R_far (p := ⟨gb359, 2, none⟩) (Kd.R_far (p := ⟨gb359, 1, none⟩) (Kd.R_far (p := ⟨gb359, 0, none⟩) (Kd.R_mono HO_127.out (fun k_ hk => (⟨hk, hk.2⟩ : _ ∧ k_ ≠ gb359))) (fun _ hk => hk.2) (.int .i64 ((rd_T35 t319 x129_4).f0))) (fun _ hk => hk.2) (.int .i64 ((rd_T35 t319 x129_4).f1))) (fun _ hk => hk.2) (.bool ((rd_T35 t319 x129_4).f2))) (fun _ hk => hk.1.1)⟩, ⟨by (with_reducible repeat (first | refine blk_drewN ?_ _ | refine blk_drew ?_ | refine blk_alloc ?_ _)); refine blk_far ?_ NB357_359.out _; (with_reducible repeat (first | refine blk_drewN ?_ _ | refine blk_drew ?_ | refine blk_alloc ?_ _)); refine blk_far ?_ NB357_359.out _; (with_reducible repeat (first | refine blk_drewN ?_ _ | refine blk_drew ?_ | refine blk_alloc ?_ _)); refine blk_far ?_ NB357_359.out _; (with_reducible repeat (first | refine blk_drewN ?_ _ | refine blk_drew ?_ | refine blk_alloc ?_ _)); exact BK357.out⟩, ⟨by repeat (first | (with_reducible first | exact HB.out | apply below_alloc | apply pw_below_drewN | apply below_drew1 | refine below_set ?_ GE357.out | refine below_set ?_ GE359.out) | exact HB.out)⟩⟩
                                      · rw [if_neg c52] at H
                                        exact absurd H (by simp)
                                    · rw [if_neg c51] at H
                                      exact absurd H (by simp)
                                  · rw [if_neg c50] at H
                                    have c50b0 : decide (x129_4 < (t319.length : Int)) = false := decide_eq_false c50
                                    clear c50
                                    have H' := Aside0.mk H
                                    clear H
                                    go_wp2
                                    go_loopg [141] k4 (fun kq v141 w' => ∃ (x141_5 : Int), v141 = .int .i64 x141_5 ∧ Aside0 (laws_FnLeaders.l3 kq l1 t333 t352 t319 (t319.length : Int) x141_5 x358000_4 x358001_4 x358002_4 = some r) ∧ Aside0 (kq ≤ k4) ∧ Aside0 (Kd.R (Kd.int .i64) 3 w' w.heap.size (fun _ => True) v354 t352) ∧ Aside0 (Kd.R k35 35 w' w.heap.size (fun k_ => k_ ≠ gb357) (.slice (some ad356) t319.length co11) t319) ∧ Aside0 (w'.heap[gb357]? = some (.cells #[.int .i64 x358000_4, .int .i64 x358001_4, .bool x358002_4] 35 (0, 0))) ∧ Aside0 (Below w.heap.size w w'))
                                    case atStart => exact ⟨(0), (by first | rfl | (simp; done) | (simp [*]; done)), H', ⟨Nat.le_refl _⟩, ⟨by (with_reducible repeat (first | apply Kd.R_alloc | apply Kd.R_drewN | apply Kd.R_drew)); exact HO_18.out⟩, ⟨by (with_reducible repeat (first | apply Kd.R_alloc | apply Kd.R_drewN | apply Kd.R_drew)); exact HO_5.out⟩, ⟨by (with_reducible repeat (first | refine blk_drewN ?_ _ | refine blk_drew ?_ | refine blk_alloc ?_ _)); exact BK357.out⟩, ⟨by repeat (first | (with_reducible first | exact HB.out | apply below_alloc | apply pw_below_drewN | apply below_drew1 | refine below_set ?_ GE357.out) | exact HB.out)⟩⟩
                                    case round =>
                                      clear H'
                                      try clear c1
                                      try clear c2
                                      try clear p2
                                      try clear c3
                                      try clear c3b0
                                      try clear p3
                                      try clear q3
                                      try clear hx3
                                      try clear qi3
                                      try clear c4
                                      try clear c5
                                      try clear p6
                                      try clear c7
                                      try clear c8
                                      try clear c9
                                      try clear c10
                                      try clear c11
                                      try clear c17
                                      try clear c17b0
                                      try clear c17b1
                                      try clear c17b2
                                      try clear c19
                                      try clear c20
                                      try clear c20b0
                                      try clear c20b1
                                      try clear c20b2
                                      try clear c21
                                      try clear c21b0
                                      try clear c21b1
                                      try clear c28
                                      try clear c30
                                      try clear c31
                                      try clear c31b0
                                      try clear c32
                                      try clear c34
                                      try clear c34b0
                                      try clear c35
                                      try clear p35
                                      try clear q35
                                      try clear hx35
                                      try clear qi35
                                      try clear c36
                                      try clear c44
                                      try clear c45
                                      try clear c45b0
                                      try clear c45b1
                                      try clear c50
                                      try clear c50b0
                                      try clear c51
                                      try clear c51b0
                                      try clear c52
                                      try clear c52b0
                                      try clear c53
                                      try clear c53b0
                                      try clear c53b1
                                      try clear c55
                                      try clear c59
                                      try clear hcz49_0
                                      try clear hcz49_1
                                      try clear hcz49_2
                                      try clear hcz56_0
                                      try clear hcz56_1
                                      try clear hcz56_2
                                      try clear hcz57_0
                                      try clear hcz57_1
                                      try clear hcz57_2
                                      try clear hcz60_0
                                      try clear hcz60_1
                                      try clear hcz60_2
                                      try clear hfz49_0
                                      try clear hfz49_1
                                      try clear hfz49_2
                                      try clear hfz56_0
                                      try clear hfz56_1
                                      try clear hfz56_2
                                      try clear hfz57_0
                                      try clear hfz57_1
                                      try clear hfz57_2
                                      try clear hfz60_0
                                      try clear hfz60_1
                                      try clear hfz60_2
                                      try clear hx356_0
                                      try clear hx356_1
                                      try clear hx356_2
                                      try clear hx358_0
                                      try clear hx358_1
                                      try clear hx358_2
                                      try clear p2
                                      try clear p3
                                      try clear p35
                                      try clear p356
                                      try clear p358
                                      try clear p6
                                      try clear q3
                                      try clear q35
                                      try clear q356
                                      try clear q358
                                      obtain ⟨x141_5, rfl, HA, HK5, HO_18, HO_139, BK357, HB⟩ := hrel
                                      cases gk with
                                      | zero => exact absurd HA.out (by simp [laws_FnLeaders.l3])
                                      | succ k5 =>
                                        have H := HA.out
                                        clear HA
                                        simp only [laws_FnLeaders.l3] at H
                                        by_cases c61 : x141_5 < (t319.length : Int)
                                        · rw [if_pos c61] at H
                                          have c61b0 : decide (x141_5 < (t319.length : Int)) = true := decide_eq_true c61
                                          clear c61
                                          by_cases c62 : 0 ≤ x141_5
                                          · rw [if_pos c62] at H
                                            have c62b0 : decide (0 ≤ x141_5) = true := decide_eq_true c62
                                            clear c62
                                            by_cases c63 : x141_5 < (t319.length : Int)
                                            · rw [if_pos c63] at H
                                              have c63b0 : decide (x141_5 < (t319.length : Int)) = true := decide_eq_true c63
                                              clear c63
                                              by_cases c64 : x141_5 < (t352.length : Int)
                                              · rw [if_pos c64] at H
                                                have c64b0 : decide (x141_5 < (t352.length : Int)) = true := decide_eq_true c64
                                                clear c64
                                                by_cases c65 : (rd t352 x141_5) = t333
                                                · rw [if_pos c65] at H
                                                  have c65b0 : ((rd t352 x141_5) == t333) = true := beq_iff_eq.mpr c65
                                                  have c65b1 : ((rd t352 x141_5) != t333) = false := bne_eq_false_iff_eq.mpr c65
                                                  clear c65
                                                  have HC66 := Aside0.mk H
                                                  clear H
                                                  have p360 : 0 ≤ (x141_5 : Int) := of_decide_eq_true (by first | (with_reducible assumption) | assumption)
                                                  have q360 : x141_5 < (t319.length : Int) := of_decide_eq_true (by first | (with_reducible assumption) | assumption)
                                                  obtain ⟨ad360, e360, hx360_0, hx360_1, hx360_2⟩ := at_T35 (Kd.R_reads' HO_139.out).2.2 x141_5 p360 q360
                                                  obtain rfl : ad356 = ad360 := (by injection e360)
                                                  replace p360 := eq_true p360
                                                  replace q360 := eq_true q360
                                                  go_upto_region 37 with (first | ((with_reducible refine gate_dst (N := 24) rfl ?_); refine box_event ?hg (N := 24) ?hd (cs := #[.int .i64 0, .int .i64 0, .bool false]) (t := 35) ?hr ?_; (case hd => rfl); (case hg => rfl); (case hr => first | (go_simp; done) | (go_simp; rfl)); intro gb361 hg w67 hbox hb; have n0_ := Aside0.mk (Kd.R_below (by (with_reducible repeat (first | apply Kd.R_alloc | apply Kd.R_drewN | apply Kd.R_drew)); exact HO_18.out) hb); have n1_ := Aside0.mk (Kd.R_below (Kd.R_elderB (by (with_reducible repeat (first | apply Kd.R_alloc | apply Kd.R_drewN | apply Kd.R_drew)); exact HO_139.out) gb361 (Nat.le_of_eq hg.symm)) hb); have n2_ := Aside0.mk (blk_below (g := gb357) (o := .cells #[.int .i64 x358000_4, .int .i64 x358001_4, .bool x358002_4] 35 (0, 0)) (by (with_reducible repeat (first | refine blk_drewN ?_ _ | refine blk_drew ?_ | refine blk_alloc ?_ _)); exact BK357.out) hb); have n3_ := Aside0.mk (below_step (by repeat (first | (with_reducible first | exact HB.out | apply below_alloc | apply pw_below_drewN | apply below_drew1 | refine below_set ?_ GE357.out) | exact HB.out)) hb); have n4_ := Aside0.mk (hbox); have n5_ := Aside0.mk ((by rw [hg]; exact (below_size (by repeat (first | (with_reducible first | exact HB.out | apply below_alloc | apply pw_below_drewN | apply below_drew1 | refine below_set ?_ GE357.out) | exact HB.out))) : w.heap.size ≤ gb361)); have n6_ := Aside0.mk ((by rw [hg]; exact (below_size (by repeat (first | (with_reducible first | exact HB.out | apply below_alloc | apply pw_below_drewN | apply below_drew1 | refine below_set ?_ GE357.out) | exact HB.out))) : w.heap.size ≤ gb361)); have n7_ := Aside0.mk ((by rw [hg]; exact Nat.ne_of_lt (blk_lt (g := gb357) (o := .cells #[.int .i64 x358000_4, .int .i64 x358001_4, .bool x358002_4] 35 (0, 0)) (by (with_reducible repeat (first | refine blk_drewN ?_ _ | refine blk_drew ?_ | refine blk_alloc ?_ _)); exact BK357.out)) : gb357 ≠ gb361)); have n8_ := Aside0.mk ((by rw [hg]; exact Nat.ne_of_gt (blk_lt (g := gb357) (o := .cells #[.int .i64 x358000_4, .int .i64 x358001_4, .bool x358002_4] 35 (0, 0)) (by (with_reducible repeat (first | refine blk_drewN ?_ _ | refine blk_drew ?_ | refine blk_alloc ?_ _)); exact BK357.out)) : gb361 ≠ gb357)); clear HO_18; clear HO_139; clear BK357; clear HB; have HO_18 := n0_; have HO_139 := n1_; have BK357 := n2_; have HB := n3_; have BK361 := n4_; have GW361 := n5_; have GE361 := n6_; have NB357_361 := n7_; have NB361_357 := n8_; clear n0_ n1_ n2_ n3_ n4_ n5_ n6_ n7_ n8_; clear hb hbox hg; have hnb68 := NB361_357.out; have hnc68 := NB357_361.out; have hcz69_0 : w67.cell? ⟨gb361, 0, none⟩ = some (.int .i64 0) := (blk_cell BK361.out 0).trans rfl; have hcz69_1 : w67.cell? ⟨gb361, 1, none⟩ = some (.int .i64 0) := (blk_cell BK361.out 1).trans rfl; have hcz69_2 : w67.cell? ⟨gb361, 2, none⟩ = some (.bool false) := (blk_cell BK361.out 2).trans rfl; have hfz69_0 := blk_frozen BK361.out 0; have hfz69_1 := blk_frozen BK361.out 1; have hfz69_2 := blk_frozen BK361.out 2; obtain ⟨Ao70, co70, eo70⟩ := Kd.R_slice HO_18.out; subst eo70; have p362 : 0 ≤ (x141_5 : Int) := of_decide_eq_true (by first | (with_reducible assumption) | assumption); have q362 : x141_5 < (t352.length : Int) := of_decide_eq_true (by first | (with_reducible assumption) | assumption); obtain ⟨ad362, e362, hx362_0⟩ := Kd.at_int (Kd.R_reads' HO_18.out).2.2 x141_5 p362 q362; cases e362; have hn362_0 : ad362.block ≠ gb361 := Kd.own_blk (Kd.R_ne HO_18.out BK361.out (by decide)); have hn362_1 : ad362.block ≠ gb361 := Kd.own_blk (Kd.R_ne HO_18.out BK361.out (by decide)); have hn362_2 : ad362.block ≠ gb361 := Kd.own_blk (Kd.R_ne HO_18.out BK361.out (by decide)); replace hx362_0 := (cell_far (p := ⟨gb361, 0, none⟩) (by first | (rw [add_block]; exact hn362_0) | (show (Addr.add _ _).block ≠ _; rw [add_block]; exact hn362_0) | exact hn362_0) (.int .i64 ((rd_T35 t319 x141_5).f0))).trans hx362_0; replace hx362_0 := (cell_far (p := ⟨gb361, 1, none⟩) (by first | (rw [add_block]; exact hn362_1) | (show (Addr.add _ _).block ≠ _; rw [add_block]; exact hn362_1) | exact hn362_1) (.int .i64 ((rd_T35 t319 x141_5).f1))).trans hx362_0; replace hx362_0 := (cell_far (p := ⟨gb361, 2, none⟩) (by first | (rw [add_block]; exact hn362_2) | (show (Addr.add _ _).block ≠ _; rw [add_block]; exact hn362_2) | exact hn362_2) (.bool ((rd_T35 t319 x141_5).f2))).trans hx362_0; clear hn362_0; clear hn362_1; clear hn362_2; replace p362 := eq_true p362; replace q362 := eq_true q362))
                                                  (try simp only [Act.put, List.setIfInBounds_toArray, List.set_cons_zero, List.set_cons_succ])
                                                  go_cut [159] (fun v159 wc => ∃ (kq : Nat) (x159_65 : Bool), v159 = .bool x159_65 ∧ Aside0 (laws_FnLeaders.j5 kq l1 t333 t352 t319 (t319.length : Int) x141_5 x159_65 x358000_4 x358001_4 x358002_4 ((rd_T35 t319 x141_5).f0) ((rd_T35 t319 x141_5).f1) ((rd_T35 t319 x141_5).f2) = some r) ∧ Aside0 (kq ≤ k5) ∧ Aside0 (Kd.R (Kd.int .i64) 3 wc w.heap.size (fun _ => True) (.slice (some ad362) t352.length co70) t352) ∧ Aside0 (Kd.R k35 35 wc w.heap.size (fun k_ => k_ ≠ gb357 ∧ k_ ≠ gb361) (.slice (some ad356) t319.length co11) t319) ∧ Aside0 (wc.heap[gb357]? = some (.cells #[.int .i64 x358000_4, .int .i64 x358001_4, .bool x358002_4] 35 (0, 0))) ∧ Aside0 (wc.heap[gb361]? = some (.cells #[.int .i64 ((rd_T35 t319 x141_5).f0), .int .i64 ((rd_T35 t319 x141_5).f1), .bool ((rd_T35 t319 x141_5).f2)] 35 (0, 0))) ∧ Aside0 (Below w.heap.size w wc))
                                                  case first =>
                                                    have H := HC66.out
                                                    clear HC66
                                                    obtain ⟨bq71, hbq71⟩ : ∃ b_ : Bool, b_ = ((rd_T35 t319 x141_5).f2) := ⟨_, rfl⟩
                                                    replace H : (if bq71 = true then (laws_FnLeaders.j5 k5 l1 t333 t352 t319 (t319.length : Int) x141_5 (((rd_T35 t319 x141_5).f0) != t333) x358000_4 x358001_4 x358002_4 ((rd_T35 t319 x141_5).f0) ((rd_T35 t319 x141_5).f1) bq71) else (laws_FnLeaders.j5 k5 l1 t333 t352 t319 (t319.length : Int) x141_5 false x358000_4 x358001_4 x358002_4 ((rd_T35 t319 x141_5).f0) ((rd_T35 t319 x141_5).f1) bq71)) = some r := by rw [← hbq71] at H; exact H
                                                    have Nbq71 := Aside0.mk hbq71
                                                    clear hbq71
                                                    (try rw [← Nbq71.out])
                                                    by_cases c72 : bq71 = true
                                                    · subst c72
                                                      have H1 : (laws_FnLeaders.j5 k5 l1 t333 t352 t319 (t319.length : Int) x141_5 (((rd_T35 t319 x141_5).f0) != t333) x358000_4 x358001_4 x358002_4 ((rd_T35 t319 x141_5).f0) ((rd_T35 t319 x141_5).f1) true) = some r := by rw [if_pos rfl] at H; exact H
                                                      clear H
                                                      have H := H1
                                                      clear H1
                                                      as_aux_lemma =>
                                                        have H' := Aside0.mk H
                                                        clear H
                                                        have hnb73 := NB361_357.out
                                                        have hnc73 := NB357_361.out
                                                        have hcz74_0 : w67.cell? ⟨gb361, 0, none⟩ = some (.int .i64 0) := (blk_cell BK361.out 0).trans rfl
                                                        have hcz74_1 : w67.cell? ⟨gb361, 1, none⟩ = some (.int .i64 0) := (blk_cell BK361.out 1).trans rfl
                                                        have hcz74_2 : w67.cell? ⟨gb361, 2, none⟩ = some (.bool false) := (blk_cell BK361.out 2).trans rfl
                                                        have hfz74_0 := blk_frozen BK361.out 0
                                                        have hfz74_1 := blk_frozen BK361.out 1
                                                        have hfz74_2 := blk_frozen BK361.out 2
                                                        go_wp2
                                                        go_meet
                                                        case rel => exact ⟨_, ((((rd_T35 t319 x141_5).f0) != t333)), (by first | rfl | (simp; done) | (simp [*]; done)), (by first | exact H' | (rw [← Nbq71.out]; exact H')), ⟨by have := HJ8.out; have := HK2.out; have := HK3.out; have := HK4.out; have := HK5.out; first | omega | exact Nat.le_refl _⟩, ⟨by (with_reducible repeat (first | apply Kd.R_alloc | apply Kd.R_drewN | apply Kd.R_drew)); exact Kd.R_mono (Kd.R_far (p := ⟨gb361, 2, none⟩) (Kd.R_far (p := ⟨gb361, 1, none⟩) (Kd.R_far (p := ⟨gb361, 0, none⟩) (Kd.R_types HO_18.out BK361.out (by decide)) (fun _ hk => hk.2) (.int .i64 ((rd_T35 t319 x141_5).f0))) (fun _ hk => hk.2) (.int .i64 ((rd_T35 t319 x141_5).f1))) (fun _ hk => hk.2) (.bool (true))) (fun _ hk => trivial)⟩, ⟨by (with_reducible repeat (first | apply Kd.R_alloc | apply Kd.R_drewN | apply Kd.R_drew)); exact Kd.R_mono (Kd.R_far (p := ⟨gb361, 2, none⟩) (Kd.R_far (p := ⟨gb361, 1, none⟩) (Kd.R_far (p := ⟨gb361, 0, none⟩) (Kd.R_mono HO_139.out (fun k_ hk => (⟨hk, hk.2⟩ : _ ∧ k_ ≠ gb361))) (fun _ hk => hk.2) (.int .i64 ((rd_T35 t319 x141_5).f0))) (fun _ hk => hk.2) (.int .i64 ((rd_T35 t319 x141_5).f1))) (fun _ hk => hk.2) (.bool (true))) (fun _ hk => ⟨hk.1.1, hk.1.2⟩)⟩, ⟨by (with_reducible repeat (first | refine blk_drewN ?_ _ | refine blk_drew ?_ | refine blk_alloc ?_ _)); refine blk_far ?_ NB357_361.out _; (with_reducible repeat (first | refine blk_drewN ?_ _ | refine blk_drew ?_ | refine blk_alloc ?_ _)); refine blk_far ?_ NB357_361.out _; (with_reducible repeat (first | refine blk_drewN ?_ _ | refine blk_drew ?_ | refine blk_alloc ?_ _)); refine blk_far ?_ NB357_361.out _; (with_reducible repeat (first | refine blk_drewN ?_ _ | refine blk_drew ?_ | refine blk_alloc ?_ _)); exact BK357.out⟩, ⟨by (with_reducible repeat (first | refine blk_drewN ?_ _ | refine blk_drew ?_ | refine blk_alloc ?_ _)); refine blk_put (cs := #[.int .i64 ((rd_T35 t319 x141_5).f0), .int .i64 ((rd_T35 t319 x141_5).f1), .bool false]) ?_ 2 _ (by first | rfl | (rw [← Nbq71.out]; rfl)); (with_reducible repeat (first | refine blk_drewN ?_ _ | refine blk_drew ?_ | refine blk_alloc ?_ _)); refine blk_put (cs := #[.int .i64 ((rd_T35 t319 x141_5).f0), .int .i64 0, .bool false]) ?_ 1 _ (by first | rfl | (rw [← Nbq71.out]; rfl)); (with_reducible repeat (first | refine blk_drewN ?_ _ | refine blk_drew ?_ | refine blk_alloc ?_ _)); refine blk_put (cs := #[.int .i64 0, .int .i64 0, .bool false]) ?_ 0 _ (by first | rfl | (rw [← Nbq71.out]; rfl)); (with_reducible repeat (first | refine blk_drewN ?_ _ | refine blk_drew ?_ | refine blk_alloc ?_ _)); exact BK361.out⟩, ⟨by repeat (first | (with_reducible first | exact HB.out | apply below_alloc | apply pw_below_drewN | apply below_drew1 | refine below_set ?_ GE357.out | refine below_set ?_ GE361.out) | exact HB.out)⟩⟩
                                                    · replace c72 := Bool.eq_false_iff.mpr c72
                                                      subst c72
                                                      have H1 : (laws_FnLeaders.j5 k5 l1 t333 t352 t319 (t319.length : Int) x141_5 false x358000_4 x358001_4 x358002_4 ((rd_T35 t319 x141_5).f0) ((rd_T35 t319 x141_5).f1) false) = some r := by rw [if_neg (show ¬ (false = true) by decide)] at H; exact H
                                                      clear H
                                                      have H := H1
                                                      clear H1
                                                      as_aux_lemma =>
                                                        have H' := Aside0.mk H
                                                        clear H
                                                        have hnb75 := NB361_357.out
                                                        have hnc75 := NB357_361.out
                                                        have hcz76_0 : w67.cell? ⟨gb361, 0, none⟩ = some (.int .i64 0) := (blk_cell BK361.out 0).trans rfl
                                                        have hcz76_1 : w67.cell? ⟨gb361, 1, none⟩ = some (.int .i64 0) := (blk_cell BK361.out 1).trans rfl
                                                        have hcz76_2 : w67.cell? ⟨gb361, 2, none⟩ = some (.bool false) := (blk_cell BK361.out 2).trans rfl
                                                        have hfz76_0 := blk_frozen BK361.out 0
                                                        have hfz76_1 := blk_frozen BK361.out 1
                                                        have hfz76_2 := blk_frozen BK361.out 2
                                                        go_wp2
                                                        go_meet
                                                        case rel => exact ⟨_, (false), (by first | rfl | (simp; done) | (simp [*]; done)), (by first | exact H' | (rw [← Nbq71.out]; exact H')), ⟨by have := HJ8.out; have := HK2.out; have := HK3.out; have := HK4.out; have := HK5.out; first | omega | exact Nat.le_refl _⟩, ⟨by (with_reducible repeat (first | apply Kd.R_alloc | apply Kd.R_drewN | apply Kd.R_drew)); exact Kd.R_mono (Kd.R_far (p := ⟨gb361, 2, none⟩) (Kd.R_far (p := ⟨gb361, 1, none⟩) (Kd.R_far (p := ⟨gb361, 0, none⟩) (Kd.R_types HO_18.out BK361.out (by decide)) (fun _ hk => hk.2) (.int .i64 ((rd_T35 t319 x141_5).f0))) (fun _ hk => hk.2) (.int .i64 ((rd_T35 t319 x141_5).f1))) (fun _ hk => hk.2) (.bool (false))) (fun _ hk => trivial)⟩, ⟨by (with_reducible repeat (first | apply Kd.R_alloc | apply Kd.R_drewN | apply Kd.R_drew)); exact Kd.R_mono (Kd.R_far (p := ⟨gb361, 2, none⟩) (Kd.R_far (p := ⟨gb361, 1, none⟩) (Kd.R_far (p := ⟨gb361, 0, none⟩) (Kd.R_mono HO_139.out (fun k_ hk => (⟨hk, hk.2⟩ : _ ∧ k_ ≠ gb361))) (fun _ hk => hk.2) (.int .i64 ((rd_T35 t319 x141_5).f0))) (fun _ hk => hk.2) (.int .i64 ((rd_T35 t319 x141_5).f1))) (fun _ hk => hk.2) (.bool (false))) (fun _ hk => ⟨hk.1.1, hk.1.2⟩)⟩, ⟨by (with_reducible repeat (first | refine blk_drewN ?_ _ | refine blk_drew ?_ | refine blk_alloc ?_ _)); refine blk_far ?_ NB357_361.out _; (with_reducible repeat (first | refine blk_drewN ?_ _ | refine blk_drew ?_ | refine blk_alloc ?_ _)); refine blk_far ?_ NB357_361.out _; (with_reducible repeat (first | refine blk_drewN ?_ _ | refine blk_drew ?_ | refine blk_alloc ?_ _)); refine blk_far ?_ NB357_361.out _; (with_reducible repeat (first | refine blk_drewN ?_ _ | refine blk_drew ?_ | refine blk_alloc ?_ _)); exact BK357.out⟩, ⟨by (with_reducible repeat (first | refine blk_drewN ?_ _ | refine blk_drew ?_ | refine blk_alloc ?_ _)); refine blk_put (cs := #[.int .i64 ((rd_T35 t319 x141_5).f0), .int .i64 ((rd_T35 t319 x141_5).f1), .bool false]) ?_ 2 _ (by first | rfl | (rw [← Nbq71.out]; rfl)); (with_reducible repeat (first | refine blk_drewN ?_ _ | refine blk_drew ?_ | refine blk_alloc ?_ _)); refine blk_put (cs := #[.int .i64 ((rd_T35 t319 x141_5).f0), .int .i64 0, .bool false]) ?_ 1 _ (by first | rfl | (rw [← Nbq71.out]; rfl)); (with_reducible repeat (first | refine blk_drewN ?_ _ | refine blk_drew ?_ | refine blk_alloc ?_ _)); refine blk_put (cs := #[.int .i64 0, .int .i64 0, .bool false]) ?_ 0 _ (by first | rfl | (rw [← Nbq71.out]; rfl)); (with_reducible repeat (first | refine blk_drewN ?_ _ | refine blk_drew ?_ | refine blk_alloc ?_ _)); exact BK361.out⟩, ⟨by repeat (first | (with_reducible first | exact HB.out | apply below_alloc | apply pw_below_drewN | apply below_drew1 | refine below_set ?_ GE357.out | refine below_set ?_ GE361.out) | exact HB.out)⟩⟩
                                                  case rest =>
                                                    clear HC66
                                                    try clear c1
                                                    try clear c2
                                                    try clear p2
                                                    try clear c3
                                                    try clear c3b0
                                                    try clear p3
                                                    try clear q3
                                                    try clear hx3
                                                    try clear qi3
                                                    try clear c4
                                                    try clear c5
                                                    try clear c6
                                                    try clear p6
                                                    try clear c7
                                                    try clear q7
                                                    try clear c8
                                                    try clear c9
                                                    try clear c10
                                                    try clear c11
                                                    try clear c17
                                                    try clear c17b0
                                                    try clear c17b1
                                                    try clear c17b2
                                                    try clear c19
                                                    try clear c20
                                                    try clear c20b0
                                                    try clear c20b1
                                                    try clear c20b2
                                                    try clear c21
                                                    try clear c21b0
                                                    try clear c21b1
                                                    try clear c28
                                                    try clear c30
                                                    try clear c31
                                                    try clear c31b0
                                                    try clear c32
                                                    try clear c34
                                                    try clear c34b0
                                                    try clear c35
                                                    try clear p35
                                                    try clear q35
                                                    try clear hx35
                                                    try clear qi35
                                                    try clear c36
                                                    try clear p36
                                                    try clear q36
                                                    try clear hx36
                                                    try clear c44
                                                    try clear c45
                                                    try clear c45b0
                                                    try clear c45b1
                                                    try clear c50
                                                    try clear c50b0
                                                    try clear c51
                                                    try clear c51b0
                                                    try clear c52
                                                    try clear c52b0
                                                    try clear c53
                                                    try clear c53b0
                                                    try clear c53b1
                                                    try clear c55
                                                    try clear c59
                                                    try clear c61
                                                    try clear c61b0
                                                    try clear c62
                                                    try clear c62b0
                                                    try clear c63
                                                    try clear c63b0
                                                    try clear c64
                                                    try clear c64b0
                                                    try clear p64
                                                    try clear c65
                                                    try clear c65b0
                                                    try clear c65b1
                                                    try clear c68
                                                    try clear q71
                                                    try clear c72
                                                    try clear c73
                                                    try clear c75
                                                    try clear hcz49_0
                                                    try clear hcz49_1
                                                    try clear hcz49_2
                                                    try clear hcz56_0
                                                    try clear hcz56_1
                                                    try clear hcz56_2
                                                    try clear hcz57_0
                                                    try clear hcz57_1
                                                    try clear hcz57_2
                                                    try clear hcz60_0
                                                    try clear hcz60_1
                                                    try clear hcz60_2
                                                    try clear hcz69_0
                                                    try clear hcz69_1
                                                    try clear hcz69_2
                                                    try clear hcz74_0
                                                    try clear hcz74_1
                                                    try clear hcz74_2
                                                    try clear hcz76_0
                                                    try clear hcz76_1
                                                    try clear hcz76_2
                                                    try clear hfz49_0
                                                    try clear hfz49_1
                                                    try clear hfz49_2
                                                    try clear hfz56_0
                                                    try clear hfz56_1
                                                    try clear hfz56_2
                                                    try clear hfz57_0
                                                    try clear hfz57_1
                                                    try clear hfz57_2
                                                    try clear hfz60_0
                                                    try clear hfz60_1
                                                    try clear hfz60_2
                                                    try clear hfz69_0
                                                    try clear hfz69_1
                                                    try clear hfz69_2
                                                    try clear hfz74_0
                                                    try clear hfz74_1
                                                    try clear hfz74_2
                                                    try clear hfz76_0
                                                    try clear hfz76_1
                                                    try clear hfz76_2
                                                    try clear hx356_0
                                                    try clear hx356_1
                                                    try clear hx356_2
                                                    try clear hx358_0
                                                    try clear hx358_1
                                                    try clear hx358_2
                                                    try clear hx360_0
                                                    try clear hx360_1
                                                    try clear hx360_2
                                                    try clear hx362_0
                                                    try clear p2
                                                    try clear p3
                                                    try clear p35
                                                    try clear p356
                                                    try clear p358
                                                    try clear p360
                                                    try clear p362
                                                    try clear p6
                                                    try clear q3
                                                    try clear q35
                                                    try clear q356
                                                    try clear q358
                                                    try clear q360
                                                    try clear q362
                                                    obtain ⟨kq, x159_65, rfl, HA, HJ65, HO_18, HO_139, BK357, BK361, HB⟩ := hcut
                                                    cases kq with
                                                    | zero => exact absurd HA.out (by simp [laws_FnLeaders.j5])
                                                    | succ kj65 =>
                                                      have H := HA.out
                                                      clear HA
                                                      simp only [laws_FnLeaders.j5] at H
                                                      by_cases c77 : x159_65 = true
                                                      · subst c77
                                                        have H1 : ((impl_Beats.f ((rd_T35 t319 x141_5).f0) ((rd_T35 t319 x141_5).f1) ((rd_T35 t319 x141_5).f2) x358000_4 x358001_4 x358002_4).bind fun bt363 => (if bt363.2 = true then (if bt363.1 = true then (none) else (laws_FnLeaders.l3 kj65 l1 t333 t352 t319 (t319.length : Int) (wrap64 (x141_5 + 1)) x358000_4 x358001_4 x358002_4)) else (none))) = some r := by rw [if_pos rfl] at H; exact H
                                                        clear H
                                                        have H := H1
                                                        clear H1
                                                        replace H := Option.bind_eq_some_iff.mp H
                                                        obtain ⟨⟨t363, t364⟩, A780, H⟩ := H
                                                        replace H : (if t364 = true then (if t363 = true then (none) else (laws_FnLeaders.l3 kj65 l1 t333 t352 t319 (t319.length : Int) (wrap64 (x141_5 + 1)) x358000_4 x358001_4 x358002_4)) else (none)) = some r := H
                                                        have A78 := Aside0.mk A780
                                                        clear A780
                                                        by_cases c79 : t364 = true
                                                        · subst c79
                                                          have H1 : (if t363 = true then (none) else (laws_FnLeaders.l3 kj65 l1 t333 t352 t319 (t319.length : Int) (wrap64 (x141_5 + 1)) x358000_4 x358001_4 x358002_4)) = some r := by rw [if_pos rfl] at H; exact H
                                                          clear H
                                                          have H := H1
                                                          clear H1
                                                          by_cases c80 : t363 = true
                                                          · subst c80
                                                            have H1 : (none) = some r := by rw [if_pos rfl] at H; exact H
                                                            clear H
                                                            have H := H1
                                                            clear H1
                                                            exact absurd H (by simp)
                                                          · replace c80 := Bool.eq_false_iff.mpr c80
                                                            subst c80
                                                            have H1 : (laws_FnLeaders.l3 kj65 l1 t333 t352 t319 (t319.length : Int) (wrap64 (x141_5 + 1)) x358000_4 x358001_4 x358002_4) = some r := by rw [if_neg (show ¬ (false = true) by decide)] at H; exact H
                                                            clear H
                                                            have H := H1
                                                            clear H1
                                                            as_aux_lemma =>
                                                              have H' := Aside0.mk H
                                                              clear H
                                                              have hnb81 := NB361_357.out
                                                              have hnc81 := NB357_361.out
                                                              have hcz82_0 : wc.cell? ⟨gb361, 0, none⟩ = some (.int .i64 ((rd_T35 t319 x141_5).f0)) := (blk_cell BK361.out 0).trans rfl
                                                              have hcz82_1 : wc.cell? ⟨gb361, 1, none⟩ = some (.int .i64 ((rd_T35 t319 x141_5).f1)) := (blk_cell BK361.out 1).trans rfl
                                                              have hcz82_2 : wc.cell? ⟨gb361, 2, none⟩ = some (.bool ((rd_T35 t319 x141_5).f2)) := (blk_cell BK361.out 2).trans rfl
                                                              have hfz82_0 := blk_frozen BK361.out 0
                                                              have hfz82_1 := blk_frozen BK361.out 1
                                                              have hfz82_2 := blk_frozen BK361.out 2
                                                              have hcz83_0 : wc.cell? ⟨gb357, 0, none⟩ = some (.int .i64 x358000_4) := (blk_cell BK357.out 0).trans rfl
                                                              have hcz83_1 : wc.cell? ⟨gb357, 1, none⟩ = some (.int .i64 x358001_4) := (blk_cell BK357.out 1).trans rfl
                                                              have hcz83_2 : wc.cell? ⟨gb357, 2, none⟩ = some (.bool x358002_4) := (blk_cell BK357.out 2).trans rfl
                                                              have hfz83_0 := blk_frozen BK357.out 0
                                                              have hfz83_1 := blk_frozen BK357.out 1
                                                              have hfz83_2 := blk_frozen BK357.out 2
                                                              go_wp2_with (first | ((with_reducible refine gate_callee (f := 15) rfl ?_); refine goesL_ (some 163) rfl rfl Try.func15 (by kernel_rfl) rfl #[.agg #[.int .i64 ((rd_T35 t319 x141_5).f0), .int .i64 ((rd_T35 t319 x141_5).f1), .bool ((rd_T35 t319 x141_5).f2)], .agg #[.int .i64 x358000_4, .int .i64 x358001_4, .bool x358002_4]] rfl (by (try simp only [List.map_toArray, List.map_cons, List.map_nil]); first | done | rfl | (simp only [List.length_drop, List.length_take]; rfl)) ?_; (with_reducible refine (impl_Beats.calls ((rd_T35 t319 x141_5).f0) ((rd_T35 t319 x141_5).f1) ((rd_T35 t319 x141_5).f2) x358000_4 x358001_4 x358002_4 false true _ A78.out).mono ?_); rintro e w84 ⟨rfl, hb⟩; refine ⟨_, rfl, ?_⟩; have n0_ := Aside0.mk (Kd.R_below (by (with_reducible repeat (first | apply Kd.R_alloc | apply Kd.R_drewN | apply Kd.R_drew)); exact HO_18.out) hb); have n1_ := Aside0.mk (Kd.R_below (by (with_reducible repeat (first | apply Kd.R_alloc | apply Kd.R_drewN | apply Kd.R_drew)); exact HO_139.out) hb); have n2_ := Aside0.mk (blk_below (g := gb357) (o := .cells #[.int .i64 x358000_4, .int .i64 x358001_4, .bool x358002_4] 35 (0, 0)) (by (with_reducible repeat (first | refine blk_drewN ?_ _ | refine blk_drew ?_ | refine blk_alloc ?_ _)); exact BK357.out) hb); have n3_ := Aside0.mk (blk_below (g := gb361) (o := .cells #[.int .i64 ((rd_T35 t319 x141_5).f0), .int .i64 ((rd_T35 t319 x141_5).f1), .bool ((rd_T35 t319 x141_5).f2)] 35 (0, 0)) (by (with_reducible repeat (first | refine blk_drewN ?_ _ | refine blk_drew ?_ | refine blk_alloc ?_ _)); exact BK361.out) hb); have n4_ := Aside0.mk (below_step (by repeat (first | (with_reducible first | exact HB.out | apply below_alloc | apply pw_below_drewN | apply below_drew1 | refine below_set ?_ GE357.out | refine below_set ?_ GE361.out) | exact HB.out)) hb); clear HO_18; clear HO_139; clear BK357; clear BK361; clear HB; have HO_18 := n0_; have HO_139 := n1_; have BK357 := n2_; have BK361 := n3_; have HB := n4_; clear n0_ n1_ n2_ n3_ n4_; (try clear hb); (try clear hb2); (try clear hk); (try clear hi)))
                                                              go_roundg kj65
                                                              case measure => have := HJ8.out; have := HK2.out; have := HK3.out; have := HK4.out; have := HK5.out; have := HJ65.out; omega
                                                              case rel => exact ⟨(wrap64 (x141_5 + 1)), (by first | rfl | (simp; done) | (simp [*]; done)), H', ⟨by have := HJ8.out; have := HK2.out; have := HK3.out; have := HK4.out; have := HK5.out; have := HJ65.out; omega⟩, ⟨by (with_reducible repeat (first | apply Kd.R_alloc | apply Kd.R_drewN | apply Kd.R_drew)); exact HO_18.out⟩, ⟨by (with_reducible repeat (first | apply Kd.R_alloc | apply Kd.R_drewN | apply Kd.R_drew)); exact Kd.R_mono HO_139.out (fun _ hk => hk.1)⟩, ⟨by (with_reducible repeat (first | refine blk_drewN ?_ _ | refine blk_drew ?_ | refine blk_alloc ?_ _)); exact BK357.out⟩, ⟨by repeat (first | (with_reducible first | exact HB.out | apply below_alloc | apply pw_below_drewN | apply below_drew1 | refine below_set ?_ GE357.out | refine below_set ?_ GE361.out) | exact HB.out)⟩⟩
                                                        · replace c79 := Bool.eq_false_iff.mpr c79
                                                          subst c79
                                                          have H1 : (none) = some r := by rw [if_neg (show ¬ (false = true) by decide)] at H; exact H
                                                          clear H
                                                          have H := H1
                                                          clear H1
                                                          exact absurd H (by simp)
                                                      · replace c77 := Bool.eq_false_iff.mpr c77
                                                        subst c77
                                                        have H1 : (laws_FnLeaders.l3 kj65 l1 t333 t352 t319 (t319.length : Int) (wrap64 (x141_5 + 1)) x358000_4 x358001_4 x358002_4) = some r := by rw [if_neg (show ¬ (false = true) by decide)] at H; exact H
                                                        clear H
                                                        have H := H1
                                                        clear H1
                                                        as_aux_lemma =>
                                                          have H' := Aside0.mk H
                                                          clear H
                                                          go_wp2
                                                          go_roundg kj65
                                                          case measure => have := HJ8.out; have := HK2.out; have := HK3.out; have := HK4.out; have := HK5.out; have := HJ65.out; omega
                                                          case rel => exact ⟨(wrap64 (x141_5 + 1)), (by first | rfl | (simp; done) | (simp [*]; done)), H', ⟨by have := HJ8.out; have := HK2.out; have := HK3.out; have := HK4.out; have := HK5.out; have := HJ65.out; omega⟩, ⟨by (with_reducible repeat (first | apply Kd.R_alloc | apply Kd.R_drewN | apply Kd.R_drew)); exact HO_18.out⟩, ⟨by (with_reducible repeat (first | apply Kd.R_alloc | apply Kd.R_drewN | apply Kd.R_drew)); exact Kd.R_mono HO_139.out (fun _ hk => hk.1)⟩, ⟨by (with_reducible repeat (first | refine blk_drewN ?_ _ | refine blk_drew ?_ | refine blk_alloc ?_ _)); exact BK357.out⟩, ⟨by repeat (first | (with_reducible first | exact HB.out | apply below_alloc | apply pw_below_drewN | apply below_drew1 | refine below_set ?_ GE357.out | refine below_set ?_ GE361.out) | exact HB.out)⟩⟩
                                                · rw [if_neg c65] at H
                                                  exact absurd H (by simp)
                                              · rw [if_neg c64] at H
                                                exact absurd H (by simp)
                                            · rw [if_neg c63] at H
                                              exact absurd H (by simp)
                                          · rw [if_neg c62] at H
                                            exact absurd H (by simp)
                                        · rw [if_neg c61] at H
                                          have c61b0 : decide (x141_5 < (t319.length : Int)) = false := decide_eq_false c61
                                          clear c61
                                          as_aux_lemma =>
                                            have H' := Aside0.mk H
                                            clear H
                                            go_wp2
                                            go_meet
                                            case rel => exact ⟨_, H', ⟨by have := HJ8.out; have := HK2.out; have := HK3.out; have := HK4.out; have := HK5.out; first | omega | exact Nat.le_refl _⟩, ⟨by repeat (first | (with_reducible first | exact HB.out | apply below_alloc | apply pw_below_drewN | apply below_drew1 | refine below_set ?_ GE357.out) | exact HB.out)⟩⟩
                            · rw [if_neg c45] at H
                              exact absurd H (by simp)
                          · replace c44 := Bool.eq_false_iff.mpr c44
                            subst c44
                            have H1 : (none) = some r := by rw [if_neg (show ¬ (false = true) by decide)] at H; exact H
                            clear H
                            have H := H1
                            clear H1
                            exact absurd H (by simp)
            · replace c30 := Bool.eq_false_iff.mpr c30
              subst c30
              have H1 : (laws_FnLeaders.j6 kj8 l1) = some r := by rw [if_neg (show ¬ (false = true) by decide)] at H; exact H
              clear H
              have H := H1
              clear H1
              as_aux_lemma =>
                have H' := Aside0.mk H
                clear H
                go_wp2
                go_meet
                case rel => exact ⟨_, H', ⟨by have := HJ8.out; first | omega | exact Nat.le_refl _⟩, ⟨by repeat (first | (with_reducible first | exact HB.out | apply below_alloc | apply pw_below_drewN | apply below_drew1) | exact HB.out)⟩⟩
          case rest =>
            clear HC29
            try clear c1
            try clear c2
            try clear p2
            try clear c3
            try clear c3b0
            try clear p3
            try clear q3
            try clear hx3
            try clear qi3
            try clear c4
            try clear c5
            try clear c6
            try clear p6
            try clear c7
            try clear q7
            try clear c8
            try clear c9
            try clear c10
            try clear c11
            try clear c15
            try clear c17
            try clear c17b0
            try clear c17b1
            try clear c17b2
            try clear c19
            try clear c20
            try clear c20b0
            try clear c20b1
            try clear c20b2
            try clear c21
            try clear c21b0
            try clear c21b1
            try clear c28
            try clear c30
            try clear c31
            try clear c31b0
            try clear c32
            try clear c34
            try clear c34b0
            try clear c35
            try clear p35
            try clear q35
            try clear hx35
            try clear qi35
            try clear c36
            try clear p36
            try clear q36
            try clear hx36
            try clear c44
            try clear c45
            try clear c45b0
            try clear c45b1
            try clear c50
            try clear c50b0
            try clear c51
            try clear c51b0
            try clear c52
            try clear c52b0
            try clear c53
            try clear c53b0
            try clear c53b1
            try clear c55
            try clear c59
            try clear c61
            try clear c61b0
            try clear c62
            try clear c62b0
            try clear c63
            try clear c63b0
            try clear c64
            try clear c64b0
            try clear p64
            try clear c65
            try clear c65b0
            try clear c65b1
            try clear c68
            try clear q71
            try clear c72
            try clear c73
            try clear c75
            try clear c77
            try clear c79
            try clear c80
            try clear c81
            try clear hcz49_0
            try clear hcz49_1
            try clear hcz49_2
            try clear hcz56_0
            try clear hcz56_1
            try clear hcz56_2
            try clear hcz57_0
            try clear hcz57_1
            try clear hcz57_2
            try clear hcz60_0
            try clear hcz60_1
            try clear hcz60_2
            try clear hcz69_0
            try clear hcz69_1
            try clear hcz69_2
            try clear hcz74_0
            try clear hcz74_1
            try clear hcz74_2
            try clear hcz76_0
            try clear hcz76_1
            try clear hcz76_2
            try clear hcz82_0
            try clear hcz82_1
            try clear hcz82_2
            try clear hcz83_0
            try clear hcz83_1
            try clear hcz83_2
            try clear hfz49_0
            try clear hfz49_1
            try clear hfz49_2
            try clear hfz56_0
            try clear hfz56_1
            try clear hfz56_2
            try clear hfz57_0
            try clear hfz57_1
            try clear hfz57_2
            try clear hfz60_0
            try clear hfz60_1
            try clear hfz60_2
            try clear hfz69_0
            try clear hfz69_1
            try clear hfz69_2
            try clear hfz74_0
            try clear hfz74_1
            try clear hfz74_2
            try clear hfz76_0
            try clear hfz76_1
            try clear hfz76_2
            try clear hfz82_0
            try clear hfz82_1
            try clear hfz82_2
            try clear hfz83_0
            try clear hfz83_1
            try clear hfz83_2
            try clear hx356_0
            try clear hx356_1
            try clear hx356_2
            try clear hx358_0
            try clear hx358_1
            try clear hx358_2
            try clear hx360_0
            try clear hx360_1
            try clear hx360_2
            try clear hx362_0
            try clear p2
            try clear p3
            try clear p35
            try clear p356
            try clear p358
            try clear p36
            try clear p360
            try clear p362
            try clear p6
            try clear p64
            try clear q3
            try clear q35
            try clear q356
            try clear q358
            try clear q36
            try clear q360
            try clear q362
            try clear q7
            try clear q71
            obtain ⟨kq, HA, HJ28, HB⟩ := hcut
            cases kq with
            | zero => exact absurd HA.out (by simp [laws_FnLeaders.j6])
            | succ kj28 =>
              have H := HA.out
              clear HA
              simp only [laws_FnLeaders.j6] at H
              replace H := Option.bind_eq_some_iff.mp H
              obtain ⟨⟨t365, t366, t367, t368, t369, t370⟩, A850, H⟩ := H
              replace H : ((impl_Beats.f t365 t366 t367 t368 t369 t370).bind fun bt373 => ((spec_Beats.f t365 t366 t367 t368 t369 t370).bind fun bt375 => (if (bt373.2 != bt375.2) = true then (none) else (laws_FnLeaders.j7 kj28 bt373.1 bt373.2 (bt373.1 != bt375.1) t365 t366 t367 t368 t369 t370)))) = some r := H
              have A85 := Aside0.mk A850
              clear A850
              replace H := Option.bind_eq_some_iff.mp H
              obtain ⟨⟨t373, t374⟩, A860, H⟩ := H
              replace H : ((spec_Beats.f t365 t366 t367 t368 t369 t370).bind fun bt375 => (if (t374 != bt375.2) = true then (none) else (laws_FnLeaders.j7 kj28 t373 t374 (t373 != bt375.1) t365 t366 t367 t368 t369 t370))) = some r := H
              have A86 := Aside0.mk A860
              clear A860
              replace H := Option.bind_eq_some_iff.mp H
              obtain ⟨⟨t375, t376⟩, A870, H⟩ := H
              replace H : (if (t374 != t376) = true then (none) else (laws_FnLeaders.j7 kj28 t373 t374 (t373 != t375) t365 t366 t367 t368 t369 t370)) = some r := H
              have A87 := Aside0.mk A870
              clear A870
              have HC88 := Aside0.mk H
              clear H
              go_upto_region 45 with (first | ((with_reducible refine gate_callee (f := 16) rfl ?_); refine goesL_ (some 174) rfl rfl Try.func16 (by kernel_rfl) rfl #[.slice A1 l1.length c1] rfl (by (try simp only [List.map_toArray, List.map_cons, List.map_nil]); first | done | rfl | (simp only [List.length_drop, List.length_take]; rfl)) ?_; (with_reducible refine (spec_DrawBeats.calls kj28 _ _ l1 t365 t366 t367 t368 t369 t370 _ ?side1 ?side2 A85.out).mono ?_); (case side1 => repeat (first | exact (Kd.C_below HR1.out HB.out) | (with_reducible refine Kd.C_alloc ?_ _) | (with_reducible refine Kd.C_drewN ?_ _) | (with_reducible refine Kd.C_drew ?_))); (case side2 => exact HC1.out); rintro e w89 ⟨rfl, hb⟩; refine ⟨_, rfl, ?_⟩; have n0_ := Aside0.mk (below_step (by repeat (first | (with_reducible first | exact HB.out | apply below_alloc | apply pw_below_drewN | apply below_drew1) | exact HB.out)) hb); clear HB; have HB := n0_; clear n0_; (try clear hb); (try clear hb2); (try clear hk); (try clear hi)) | ((with_reducible refine gate_dst (N := 27) rfl ?_); refine box_event ?hg (N := 27) ?hd (cs := #[.int .i64 0, .int .i64 0, .bool false]) (t := 35) ?hr ?_; (case hd => rfl); (case hg => rfl); (case hr => first | (go_simp; done) | (go_simp; rfl)); intro gb371 hg w90 hbox hb; have n0_ := Aside0.mk (below_step (by repeat (first | (with_reducible first | exact HB.out | apply below_alloc | apply pw_below_drewN | apply below_drew1) | exact HB.out)) hb); have n1_ := Aside0.mk (hbox); have n2_ := Aside0.mk ((by rw [hg]; exact (below_size (by repeat (first | (with_reducible first | exact HB.out | apply below_alloc | apply pw_below_drewN | apply below_drew1) | exact HB.out))) : w.heap.size ≤ gb371)); have n3_ := Aside0.mk ((by rw [hg]; exact (below_size (by repeat (first | (with_reducible first | exact HB.out | apply below_alloc | apply pw_below_drewN | apply below_drew1) | exact HB.out))) : w.heap.size ≤ gb371)); clear HB; have HB := n0_; have BK371 := n1_; have GW371 := n2_; have GE371 := n3_; clear n0_ n1_ n2_ n3_; clear hb hbox hg) | ((with_reducible refine gate_dst (N := 28) rfl ?_); refine box_event ?hg (N := 28) ?hd (cs := #[.int .i64 0, .int .i64 0, .bool false]) (t := 35) ?hr ?_; (case hd => rfl); (case hg => rfl); (case hr => first | (go_simp; done) | (go_simp; rfl)); intro gb372 hg w91 hbox hb; have n0_ := Aside0.mk (blk_below (g := gb371) (o := .cells #[.int .i64 0, .int .i64 0, .bool false] 35 (0, 0)) (by (with_reducible repeat (first | refine blk_drewN ?_ _ | refine blk_drew ?_ | refine blk_alloc ?_ _)); exact BK371.out) hb); have n1_ := Aside0.mk (below_step (by repeat (first | (with_reducible first | exact HB.out | apply below_alloc | apply pw_below_drewN | apply below_drew1 | refine below_set ?_ GE371.out) | exact HB.out)) hb); have n2_ := Aside0.mk (hbox); have n3_ := Aside0.mk ((by rw [hg]; exact (below_size (by repeat (first | (with_reducible first | exact HB.out | apply below_alloc | apply pw_below_drewN | apply below_drew1 | refine below_set ?_ GE371.out) | exact HB.out))) : w.heap.size ≤ gb372)); have n4_ := Aside0.mk ((by rw [hg]; exact (below_size (by repeat (first | (with_reducible first | exact HB.out | apply below_alloc | apply pw_below_drewN | apply below_drew1 | refine below_set ?_ GE371.out) | exact HB.out))) : w.heap.size ≤ gb372)); have n5_ := Aside0.mk ((by rw [hg]; exact Nat.ne_of_lt (blk_lt (g := gb371) (o := .cells #[.int .i64 0, .int .i64 0, .bool false] 35 (0, 0)) (by (with_reducible repeat (first | refine blk_drewN ?_ _ | refine blk_drew ?_ | refine blk_alloc ?_ _)); exact BK371.out)) : gb371 ≠ gb372)); have n6_ := Aside0.mk ((by rw [hg]; exact Nat.ne_of_gt (blk_lt (g := gb371) (o := .cells #[.int .i64 0, .int .i64 0, .bool false] 35 (0, 0)) (by (with_reducible repeat (first | refine blk_drewN ?_ _ | refine blk_drew ?_ | refine blk_alloc ?_ _)); exact BK371.out)) : gb372 ≠ gb371)); clear BK371; clear HB; have BK371 := n0_; have HB := n1_; have BK372 := n2_; have GW372 := n3_; have GE372 := n4_; have NB371_372 := n5_; have NB372_371 := n6_; clear n0_ n1_ n2_ n3_ n4_ n5_ n6_; clear hb hbox hg; have hnb92 := NB371_372.out; have hnc92 := NB372_371.out; have hcz93_0 : w91.cell? ⟨gb371, 0, none⟩ = some (.int .i64 0) := (blk_cell BK371.out 0).trans rfl; have hcz93_1 : w91.cell? ⟨gb371, 1, none⟩ = some (.int .i64 0) := (blk_cell BK371.out 1).trans rfl; have hcz93_2 : w91.cell? ⟨gb371, 2, none⟩ = some (.bool false) := (blk_cell BK371.out 2).trans rfl; have hfz93_0 := blk_frozen BK371.out 0; have hfz93_1 := blk_frozen BK371.out 1; have hfz93_2 := blk_frozen BK371.out 2; have hcz94_0 : w91.cell? ⟨gb372, 0, none⟩ = some (.int .i64 0) := (blk_cell BK372.out 0).trans rfl; have hcz94_1 : w91.cell? ⟨gb372, 1, none⟩ = some (.int .i64 0) := (blk_cell BK372.out 1).trans rfl; have hcz94_2 : w91.cell? ⟨gb372, 2, none⟩ = some (.bool false) := (blk_cell BK372.out 2).trans rfl; have hfz94_0 := blk_frozen BK372.out 0; have hfz94_1 := blk_frozen BK372.out 1; have hfz94_2 := blk_frozen BK372.out 2) | ((with_reducible refine gate_callee (f := 15) rfl ?_); refine goesL_ (some 180) rfl rfl Try.func15 (by kernel_rfl) rfl #[.agg #[.int .i64 t365, .int .i64 t366, .bool t367], .agg #[.int .i64 t368, .int .i64 t369, .bool t370]] rfl (by (try simp only [List.map_toArray, List.map_cons, List.map_nil]); first | done | rfl | (simp only [List.length_drop, List.length_take]; rfl)) ?_; (with_reducible refine (impl_Beats.calls t365 t366 t367 t368 t369 t370 t373 t374 _ A86.out).mono ?_); rintro e w95 ⟨rfl, hb⟩; refine ⟨_, rfl, ?_⟩; have n0_ := Aside0.mk (blk_below (g := gb371) (o := .cells #[.int .i64 t365, .int .i64 t366, .bool t367] 35 (0, 0)) (by (with_reducible repeat (first | refine blk_drewN ?_ _ | refine blk_drew ?_ | refine blk_alloc ?_ _)); refine blk_far ?_ NB371_372.out _; (with_reducible repeat (first | refine blk_drewN ?_ _ | refine blk_drew ?_ | refine blk_alloc ?_ _)); refine blk_far ?_ NB371_372.out _; (with_reducible repeat (first | refine blk_drewN ?_ _ | refine blk_drew ?_ | refine blk_alloc ?_ _)); refine blk_far ?_ NB371_372.out _; (with_reducible repeat (first | refine blk_drewN ?_ _ | refine blk_drew ?_ | refine blk_alloc ?_ _)); refine blk_put (cs := #[.int .i64 t365, .int .i64 t366, .bool false]) ?_ 2 _ rfl; (with_reducible repeat (first | refine blk_drewN ?_ _ | refine blk_drew ?_ | refine blk_alloc ?_ _)); refine blk_put (cs := #[.int .i64 t365, .int .i64 0, .bool false]) ?_ 1 _ rfl; (with_reducible repeat (first | refine blk_drewN ?_ _ | refine blk_drew ?_ | refine blk_alloc ?_ _)); refine blk_put (cs := #[.int .i64 0, .int .i64 0, .bool false]) ?_ 0 _ rfl; (with_reducible repeat (first | refine blk_drewN ?_ _ | refine blk_drew ?_ | refine blk_alloc ?_ _)); exact BK371.out) hb); have n1_ := Aside0.mk (blk_below (g := gb372) (o := .cells #[.int .i64 t368, .int .i64 t369, .bool t370] 35 (0, 0)) (by (with_reducible repeat (first | refine blk_drewN ?_ _ | refine blk_drew ?_ | refine blk_alloc ?_ _)); refine blk_put (cs := #[.int .i64 t368, .int .i64 t369, .bool false]) ?_ 2 _ rfl; (with_reducible repeat (first | refine blk_drewN ?_ _ | refine blk_drew ?_ | refine blk_alloc ?_ _)); refine blk_put (cs := #[.int .i64 t368, .int .i64 0, .bool false]) ?_ 1 _ rfl; (with_reducible repeat (first | refine blk_drewN ?_ _ | refine blk_drew ?_ | refine blk_alloc ?_ _)); refine blk_put (cs := #[.int .i64 0, .int .i64 0, .bool false]) ?_ 0 _ rfl; (with_reducible repeat (first | refine blk_drewN ?_ _ | refine blk_drew ?_ | refine blk_alloc ?_ _)); refine blk_far ?_ NB372_371.out _; (with_reducible repeat (first | refine blk_drewN ?_ _ | refine blk_drew ?_ | refine blk_alloc ?_ _)); refine blk_far ?_ NB372_371.out _; (with_reducible repeat (first | refine blk_drewN ?_ _ | refine blk_drew ?_ | refine blk_alloc ?_ _)); refine blk_far ?_ NB372_371.out _; (with_reducible repeat (first | refine blk_drewN ?_ _ | refine blk_drew ?_ | refine blk_alloc ?_ _)); exact BK372.out) hb); have n2_ := Aside0.mk (below_step (by repeat (first | (with_reducible first | exact HB.out | apply below_alloc | apply pw_below_drewN | apply below_drew1 | refine below_set ?_ GE371.out | refine below_set ?_ GE372.out) | exact HB.out)) hb); clear BK371; clear BK372; clear HB; have BK371 := n0_; have BK372 := n1_; have HB := n2_; clear n0_ n1_ n2_; (try clear hb); (try clear hb2); (try clear hk); (try clear hi); have hcz96_0 : w95.cell? ⟨gb371, 0, none⟩ = some (.int .i64 t365) := (blk_cell BK371.out 0).trans rfl; have hcz96_1 : w95.cell? ⟨gb371, 1, none⟩ = some (.int .i64 t366) := (blk_cell BK371.out 1).trans rfl; have hcz96_2 : w95.cell? ⟨gb371, 2, none⟩ = some (.bool t367) := (blk_cell BK371.out 2).trans rfl; have hfz96_0 := blk_frozen BK371.out 0; have hfz96_1 := blk_frozen BK371.out 1; have hfz96_2 := blk_frozen BK371.out 2; have hcz97_0 : w95.cell? ⟨gb372, 0, none⟩ = some (.int .i64 t368) := (blk_cell BK372.out 0).trans rfl; have hcz97_1 : w95.cell? ⟨gb372, 1, none⟩ = some (.int .i64 t369) := (blk_cell BK372.out 1).trans rfl; have hcz97_2 : w95.cell? ⟨gb372, 2, none⟩ = some (.bool t370) := (blk_cell BK372.out 2).trans rfl; have hfz97_0 := blk_frozen BK372.out 0; have hfz97_1 := blk_frozen BK372.out 1; have hfz97_2 := blk_frozen BK372.out 2) | ((with_reducible refine gate_callee (f := 17) rfl ?_); refine goesL_ (some 186) rfl rfl Try.func17 (by kernel_rfl) rfl #[.agg #[.int .i64 t365, .int .i64 t366, .bool t367], .agg #[.int .i64 t368, .int .i64 t369, .bool t370]] rfl (by (try simp only [List.map_toArray, List.map_cons, List.map_nil]); first | done | rfl | (simp only [List.length_drop, List.length_take]; rfl)) ?_; (with_reducible refine (spec_Beats.calls t365 t366 t367 t368 t369 t370 t375 t376 _ A87.out).mono ?_); rintro e w98 ⟨rfl, hb⟩; refine ⟨_, rfl, ?_⟩; have n0_ := Aside0.mk (blk_below (g := gb371) (o := .cells #[.int .i64 t365, .int .i64 t366, .bool t367] 35 (0, 0)) (by (with_reducible repeat (first | refine blk_drewN ?_ _ | refine blk_drew ?_ | refine blk_alloc ?_ _)); exact BK371.out) hb); have n1_ := Aside0.mk (blk_below (g := gb372) (o := .cells #[.int .i64 t368, .int .i64 t369, .bool t370] 35 (0, 0)) (by (with_reducible repeat (first | refine blk_drewN ?_ _ | refine blk_drew ?_ | refine blk_alloc ?_ _)); exact BK372.out) hb); have n2_ := Aside0.mk (below_step (by repeat (first | (with_reducible first | exact HB.out | apply below_alloc | apply pw_below_drewN | apply below_drew1 | refine below_set ?_ GE371.out | refine below_set ?_ GE372.out) | exact HB.out)) hb); clear BK371; clear BK372; clear HB; have BK371 := n0_; have BK372 := n1_; have HB := n2_; clear n0_ n1_ n2_; (try clear hb); (try clear hb2); (try clear hk); (try clear hi)))
              (try simp only [Act.put, List.setIfInBounds_toArray, List.set_cons_zero, List.set_cons_succ])
              go_cut [196] (fun v196 wc => ∃ (kq : Nat) (x196_87 : Bool), v196 = .bool x196_87 ∧ Aside0 (laws_FnLeaders.j7 kq t373 t374 x196_87 t365 t366 t367 t368 t369 t370 = some r) ∧ Aside0 (kq ≤ kj28) ∧ Aside0 (wc.heap[gb371]? = some (.cells #[.int .i64 t365, .int .i64 t366, .bool t367] 35 (0, 0))) ∧ Aside0 (wc.heap[gb372]? = some (.cells #[.int .i64 t368, .int .i64 t369, .bool t370] 35 (0, 0))) ∧ Aside0 (Below w.heap.size w wc))
              case first =>
                have H := HC88.out
                clear HC88
                by_cases c99 : (t374 != t376) = true
                · rw [if_pos c99] at H
                  exact absurd H (by simp)
                · rw [if_neg c99] at H
                  have c99b0 : (t374 != t376) = false := by simpa using c99
                  (try (have c99b1 : decide (t374 = t376) = true := by simpa using c99))
                  (try (have c99b2 : (t374 == t376) = true := by simpa using c99))
                  clear c99
                  (first | rw [c99b0] | (simp only [i64_w, i32_w]; rw [c99b0]) | skip)
                  as_aux_lemma =>
                    have H' := Aside0.mk H
                    clear H
                    go_wp2
                    go_meet
                    case rel => exact ⟨_, ((t373 != t375)), (by first | rfl | (simp; done) | (simp [*]; done)), H', ⟨by have := HJ8.out; have := HJ28.out; first | omega | exact Nat.le_refl _⟩, ⟨by (with_reducible repeat (first | refine blk_drewN ?_ _ | refine blk_drew ?_ | refine blk_alloc ?_ _)); exact BK371.out⟩, ⟨by (with_reducible repeat (first | refine blk_drewN ?_ _ | refine blk_drew ?_ | refine blk_alloc ?_ _)); exact BK372.out⟩, ⟨by repeat (first | (with_reducible first | exact HB.out | apply below_alloc | apply pw_below_drewN | apply below_drew1 | refine below_set ?_ GE371.out | refine below_set ?_ GE372.out) | exact HB.out)⟩⟩
              case rest =>
                clear HC88
                try clear c1
                try clear c2
                try clear p2
                try clear c3
                try clear c3b0
                try clear p3
                try clear q3
                try clear hx3
                try clear qi3
                try clear c4
                try clear c5
                try clear c6
                try clear p6
                try clear c7
                try clear q7
                try clear c8
                try clear c9
                try clear c10
                try clear c11
                try clear c15
                try clear c16
                try clear c17
                try clear c17b0
                try clear c17b1
                try clear c17b2
                try clear c19
                try clear c20
                try clear c20b0
                try clear c20b1
                try clear c20b2
                try clear c21
                try clear c21b0
                try clear c21b1
                try clear c28
                try clear c30
                try clear c31
                try clear c31b0
                try clear c32
                try clear c34
                try clear c34b0
                try clear c35
                try clear p35
                try clear q35
                try clear hx35
                try clear qi35
                try clear c36
                try clear p36
                try clear q36
                try clear hx36
                try clear c44
                try clear c45
                try clear c45b0
                try clear c45b1
                try clear c50
                try clear c50b0
                try clear c51
                try clear c51b0
                try clear c52
                try clear c52b0
                try clear c53
                try clear c53b0
                try clear c53b1
                try clear c55
                try clear c59
                try clear c61
                try clear c61b0
                try clear c62
                try clear c62b0
                try clear c63
                try clear c63b0
                try clear c64
                try clear c64b0
                try clear p64
                try clear c65
                try clear c65b0
                try clear c65b1
                try clear c68
                try clear q71
                try clear c72
                try clear c73
                try clear c75
                try clear c77
                try clear c79
                try clear c80
                try clear c81
                try clear c92
                try clear c99
                try clear c99b0
                try clear c99b1
                try clear c99b2
                try clear hcz49_0
                try clear hcz49_1
                try clear hcz49_2
                try clear hcz56_0
                try clear hcz56_1
                try clear hcz56_2
                try clear hcz57_0
                try clear hcz57_1
                try clear hcz57_2
                try clear hcz60_0
                try clear hcz60_1
                try clear hcz60_2
                try clear hcz69_0
                try clear hcz69_1
                try clear hcz69_2
                try clear hcz74_0
                try clear hcz74_1
                try clear hcz74_2
                try clear hcz76_0
                try clear hcz76_1
                try clear hcz76_2
                try clear hcz82_0
                try clear hcz82_1
                try clear hcz82_2
                try clear hcz83_0
                try clear hcz83_1
                try clear hcz83_2
                try clear hcz93_0
                try clear hcz93_1
                try clear hcz93_2
                try clear hcz94_0
                try clear hcz94_1
                try clear hcz94_2
                try clear hcz96_0
                try clear hcz96_1
                try clear hcz96_2
                try clear hcz97_0
                try clear hcz97_1
                try clear hcz97_2
                try clear hfz49_0
                try clear hfz49_1
                try clear hfz49_2
                try clear hfz56_0
                try clear hfz56_1
                try clear hfz56_2
                try clear hfz57_0
                try clear hfz57_1
                try clear hfz57_2
                try clear hfz60_0
                try clear hfz60_1
                try clear hfz60_2
                try clear hfz69_0
                try clear hfz69_1
                try clear hfz69_2
                try clear hfz74_0
                try clear hfz74_1
                try clear hfz74_2
                try clear hfz76_0
                try clear hfz76_1
                try clear hfz76_2
                try clear hfz82_0
                try clear hfz82_1
                try clear hfz82_2
                try clear hfz83_0
                try clear hfz83_1
                try clear hfz83_2
                try clear hfz93_0
                try clear hfz93_1
                try clear hfz93_2
                try clear hfz94_0
                try clear hfz94_1
                try clear hfz94_2
                try clear hfz96_0
                try clear hfz96_1
                try clear hfz96_2
                try clear hfz97_0
                try clear hfz97_1
                try clear hfz97_2
                try clear hx356_0
                try clear hx356_1
                try clear hx356_2
                try clear hx358_0
                try clear hx358_1
                try clear hx358_2
                try clear hx360_0
                try clear hx360_1
                try clear hx360_2
                try clear hx362_0
                try clear p2
                try clear p3
                try clear p35
                try clear p356
                try clear p358
                try clear p36
                try clear p360
                try clear p362
                try clear p6
                try clear p64
                try clear q3
                try clear q35
                try clear q356
                try clear q358
                try clear q36
                try clear q360
                try clear q362
                try clear q7
                try clear q71
                obtain ⟨kq, x196_87, rfl, HA, HJ87, BK371, BK372, HB⟩ := hcut
                cases kq with
                | zero => exact absurd HA.out (by simp [laws_FnLeaders.j7])
                | succ kj87 =>
                  have H := HA.out
                  clear HA
                  simp only [laws_FnLeaders.j7] at H
                  by_cases c100 : x196_87 = true
                  · subst c100
                    have H1 : (none) = some r := by rw [if_pos rfl] at H; exact H
                    clear H
                    have H := H1
                    clear H1
                    exact absurd H (by simp)
                  · replace c100 := Bool.eq_false_iff.mpr c100
                    subst c100
                    have H1 : (if t374 = true then ((impl_Beats.f t368 t369 t370 t365 t366 t367).bind fun bt377 => (if bt377.2 = true then (some (t373 != bt377.1)) else (none))) else (some true)) = some r := by rw [if_neg (show ¬ (false = true) by decide)] at H; exact H
                    clear H
                    have H := H1
                    clear H1
                    by_cases c101 : t374 = true
                    · subst c101
                      have H1 : ((impl_Beats.f t368 t369 t370 t365 t366 t367).bind fun bt377 => (if bt377.2 = true then (some (t373 != bt377.1)) else (none))) = some r := by rw [if_pos rfl] at H; exact H
                      clear H
                      have H := H1
                      clear H1
                      replace H := Option.bind_eq_some_iff.mp H
                      obtain ⟨⟨t377, t378⟩, A1020, H⟩ := H
                      replace H : (if t378 = true then (some (t373 != t377)) else (none)) = some r := H
                      have A102 := Aside0.mk A1020
                      clear A1020
                      by_cases c103 : t378 = true
                      · subst c103
                        have H1 : (some (t373 != t377)) = some r := by rw [if_pos rfl] at H; exact H
                        clear H
                        have H := H1
                        clear H1
                        as_aux_lemma =>
                          obtain rfl := Option.some.inj H
                          have hnb104 := NB372_371.out
                          have hnc104 := NB371_372.out
                          have hcz105_0 : wc.cell? ⟨gb372, 0, none⟩ = some (.int .i64 t368) := (blk_cell BK372.out 0).trans rfl
                          have hcz105_1 : wc.cell? ⟨gb372, 1, none⟩ = some (.int .i64 t369) := (blk_cell BK372.out 1).trans rfl
                          have hcz105_2 : wc.cell? ⟨gb372, 2, none⟩ = some (.bool t370) := (blk_cell BK372.out 2).trans rfl
                          have hfz105_0 := blk_frozen BK372.out 0
                          have hfz105_1 := blk_frozen BK372.out 1
                          have hfz105_2 := blk_frozen BK372.out 2
                          have hcz106_0 : wc.cell? ⟨gb371, 0, none⟩ = some (.int .i64 t365) := (blk_cell BK371.out 0).trans rfl
                          have hcz106_1 : wc.cell? ⟨gb371, 1, none⟩ = some (.int .i64 t366) := (blk_cell BK371.out 1).trans rfl
                          have hcz106_2 : wc.cell? ⟨gb371, 2, none⟩ = some (.bool t367) := (blk_cell BK371.out 2).trans rfl
                          have hfz106_0 := blk_frozen BK371.out 0
                          have hfz106_1 := blk_frozen BK371.out 1
                          have hfz106_2 := blk_frozen BK371.out 2
                          go_wp2_with (first | ((with_reducible refine gate_callee (f := 15) rfl ?_); refine goesL_ (some 201) rfl rfl Try.func15 (by kernel_rfl) rfl #[.agg #[.int .i64 t368, .int .i64 t369, .bool t370], .agg #[.int .i64 t365, .int .i64 t366, .bool t367]] rfl (by (try simp only [List.map_toArray, List.map_cons, List.map_nil]); first | done | rfl | (simp only [List.length_drop, List.length_take]; rfl)) ?_; (with_reducible refine (impl_Beats.calls t368 t369 t370 t365 t366 t367 t377 true _ A102.out).mono ?_); rintro e w107 ⟨rfl, hb⟩; refine ⟨_, rfl, ?_⟩; have n0_ := Aside0.mk (blk_below (g := gb371) (o := .cells #[.int .i64 t365, .int .i64 t366, .bool t367] 35 (0, 0)) (by (with_reducible repeat (first | refine blk_drewN ?_ _ | refine blk_drew ?_ | refine blk_alloc ?_ _)); exact BK371.out) hb); have n1_ := Aside0.mk (blk_below (g := gb372) (o := .cells #[.int .i64 t368, .int .i64 t369, .bool t370] 35 (0, 0)) (by (with_reducible repeat (first | refine blk_drewN ?_ _ | refine blk_drew ?_ | refine blk_alloc ?_ _)); exact BK372.out) hb); have n2_ := Aside0.mk (below_step (by repeat (first | (with_reducible first | exact HB.out | apply below_alloc | apply pw_below_drewN | apply below_drew1 | refine below_set ?_ GE371.out | refine below_set ?_ GE372.out) | exact HB.out)) hb); clear BK371; clear BK372; clear HB; have BK371 := n0_; have BK372 := n1_; have HB := n2_; clear n0_ n1_ n2_; (try clear hb); (try clear hb2); (try clear hk); (try clear hi)))
                          go_ret
                          exact ⟨by first | rfl | (simp [errW_none, errW_some] <;> rfl) | (simp [*, errW_none, errW_some] <;> rfl), by repeat (first | (with_reducible first | exact HB.out | apply below_alloc | apply pw_below_drewN | apply below_drew1 | refine below_set ?_ GE371.out | refine below_set ?_ GE372.out) | exact HB.out)⟩
                      · replace c103 := Bool.eq_false_iff.mpr c103
                        subst c103
                        have H1 : (none) = some r := by rw [if_neg (show ¬ (false = true) by decide)] at H; exact H
                        clear H
                        have H := H1
                        clear H1
                        exact absurd H (by simp)
                    · replace c101 := Bool.eq_false_iff.mpr c101
                      subst c101
                      have H1 : (some true) = some r := by rw [if_neg (show ¬ (false = true) by decide)] at H; exact H
                      clear H
                      have H := H1
                      clear H1
                      as_aux_lemma =>
                        obtain rfl := Option.some.inj H
                        go_wp2
                        go_ret
                        exact ⟨by first | rfl | (simp [errW_none, errW_some] <;> rfl) | (simp [*, errW_none, errW_some] <;> rfl), by repeat (first | (with_reducible first | exact HB.out | apply below_alloc | apply pw_below_drewN | apply below_drew1 | refine below_set ?_ GE371.out | refine below_set ?_ GE372.out) | exact HB.out)⟩

/-- THE ONE PURE STATEMENT of laws_FnLeaders: yours. -/
def laws_FnLeaders.Pure : Prop := ∀ (l0 : List Int) (l1 : List Int), l0.length ≤ maxLen → l0.length * 1 ≤ 140737488351232 → (∀ x ∈ l0, (Lit.int .u8 x).wf = true) → l1.length ≤ maxLen → l1.length * 1 ≤ 140737488351232 → (∀ x ∈ l1, (Lit.int .u8 x).wf = true) → ∃ k, laws_FnLeaders.f k l0 l1 = some true
theorem laws_FnLeaders.walk (P : laws_FnLeaders.Pure) (a0 : Option Addr) (len0 cap0 : Nat) (z0 : List Int) (a1 : Option Addr) (len1 cap1 : Nat) (z1 : List Int) (w : World) (w0 : (a0 = none ∧ len0 = 0 ∧ cap0 = 0 ∧ z0 = []) ∨ ∃ x, a0 = some x ∧ len0 ≤ cap0 ∧ cap0 ≤ maxLen ∧ z0.length = cap0 ∧ (∀ i, i < z0.length → w.cell? (x.add i) = some (.int .u8 (z0.getD i 0))) ∧ ∀ n ∈ z0, (Lit.int .u8 n).wf = true) (y0 : len0 * 1 ≤ 140737488351232) (w1 : (a1 = none ∧ len1 = 0 ∧ cap1 = 0 ∧ z1 = []) ∨ ∃ x, a1 = some x ∧ len1 ≤ cap1 ∧ cap1 ≤ maxLen ∧ z1.length = cap1 ∧ (∀ i, i < z1.length → w.cell? (x.add i) = some (.int .u8 (z1.getD i 0))) ∧ ∀ n ∈ z1, (Lit.int .u8 n).wf = true) (y1 : len1 * 1 ≤ 140737488351232) :
    Calls Try.prog 3 #[.slice a0 len0 cap0, .slice a1 len1 cap1] w fun e w' => e = .returned (.bool true) ∧ Below w.heap.size w w' := by
  obtain ⟨l0, rfl, hr0, hm0, hw0, hc0⟩ := ReadsInt.ofRowC w0
  obtain ⟨l1, rfl, hr1, hm1, hw1, hc1⟩ := ReadsInt.ofRowC w1
  obtain ⟨k, h⟩ := P l0 l1 hm0 y0 hw0 hm1 y1 hw1
  refine (laws_FnLeaders.calls k _ _ l0 _ _ l1 true w (Kd.C_of_reads (d := (0 : Int)) (h1 := fun _ => rfl) hr0) hc0 (Kd.C_of_reads (d := (0 : Int)) (h1 := fun _ => rfl) hr1) hc1 h).mono ?_
  rintro e w' ⟨rfl, hd⟩
  exact ⟨rfl, hd⟩

end Go.Proofs.Ytgcondmgpcaahaa.PFnLeaders
