-- Written by a program of this project (myprint.py, by way of the kit's printer). Not trusted: Lean checks it.
import Derived.Test.YtgcondmgpcaahaaPFnServersx0
import Derived.Test.YtgcondmgpcaahaaPFnServersx4
import Derived.Test.YtgcondmgpcaahaaPFnServersx5
import Derived.Test.YtgcondmgpcaahaaPFnServersx6
import Derived.Test.YtgcondmgpcaahaaPFnServersx8
import Derived.Test.YtgcondmgpcaahaaPFnServersx9
namespace Go.Proofs.Ytgcondmgpcaahaa.PFnServers
open Go.RowKit Go.Proofs.YtgcondmgpcaahaaW.PrintWords Go.Proofs.YtgcondmgpcaahaaW.PrintLast Go.Proofs.YtgcondmgpcaahaaW.PrintMore
attribute [local go_sem] max2_int min2_int max_two min_two max_three min_three max_four min_four   -- for this text's walks alone
set_option linter.unusedVariables false
set_option linter.unusedSimpArgs false

/-! ### laws_FnServers: function 4 -/
mutual
def laws_FnServers.j0 : Nat → List Int → Int → Int → List Int → Bool → List Int → Bool → Bool → Option (Bool)
  | 0, _, _, _, _, _, _, _, _ => none
  | k + 1, x1, x6, x7, x8, x9, x12, x13, x94 => if x94 = true then (none) else (if x9 = true then (if x13 = true then (laws_FnServers.j1 k x1 x6 x8 x12 ((x12.length : Int) != x7)) else (none)) else (laws_FnServers.j3 k x1))
def laws_FnServers.j3 : Nat → List Int → Option (Bool)
  | 0, _ => none
  | k + 1, x1 => (spec_DrawSetRank.f k x1).bind fun bt346 => ((impl_SetRank.f k bt346.1 bt346.2.1 bt346.2.2).bind fun bt351 => ((spec_SetRank.f k bt346.1 bt346.2.1 bt346.2.2).bind fun bt355 => (if (bt351.2 != bt355.2) = true then (none) else ((laws_sameBridges.f k bt351.1 bt355.1).bind fun t359 => (laws_FnServers.j4 k x1 bt346.2.1 bt346.2.2 bt351.1 bt351.2 (!t359))))))
def laws_FnServers.j4 : Nat → List Int → Int → Int → List (S35) → Bool → Bool → Option (Bool)
  | 0, _, _, _, _, _, _ => none
  | k + 1, x1, x19, x20, x21, x22, x147 => if x147 = true then (none) else (if x22 = true then (laws_FnServers.j5 k x1 x19 x21 (x20 == 127)) else (laws_FnServers.j5 k x1 x19 x21 false))
def laws_FnServers.j5 : Nat → List Int → Int → List (S35) → Bool → Option (Bool)
  | 0, _, _, _, _ => none
  | k + 1, x1, x19, x21, x152 => if x152 = true then ((impl_LeaderOf.f k x21).bind fun bt360 => (laws_FnServers.l1 k x1 x19 bt360.1 bt360.2 false false x21 (x21.length : Int) 0)) else (laws_FnServers.j8 k x1)
def laws_FnServers.j8 : Nat → List Int → Option (Bool)
  | 0, _ => none
  | k + 1, x1 => (spec_DrawServersOf.f k x1).bind fun bt364 => ((impl_ServersOf.f k bt364.1 bt364.2).bind fun bt368 => ((spec_ServersOf.f k bt364.1 bt364.2).bind fun bt372 => (if (bt368.2 == bt372.2) = true then ((laws_sameInts.f k bt368.1 bt372.1).bind fun t376 => (some t376)) else (none))))
def laws_FnServers.l1 : Nat → List Int → Int → Int → Bool → Bool → Bool → List (S35) → Int → Int → Option (Bool)
  | 0, _, _, _, _, _, _, _, _, _ => none
  | k + 1, x1, x19, x25, x26, x27, x28, x158, x159, x160 => if x160 < x159 then (if 0 ≤ x160 then (if x160 < (x158.length : Int) then (if x27 = true then (if x28 = true then (laws_FnServers.l1 k x1 x19 x25 x26 true true x158 x159 (wrap64 (x160 + 1))) else (if ((rd_T35 x158 x160).f0) = x19 then (laws_FnServers.l1 k x1 x19 x25 x26 true false x158 x159 (wrap64 (x160 + 1))) else (if (rd_T35 x158 x160).f2 = true then (laws_FnServers.l1 k x1 x19 x25 x26 true (((rd_T35 x158 x160).f1) == 127) x158 x159 (wrap64 (x160 + 1))) else (laws_FnServers.l1 k x1 x19 x25 x26 true false x158 x159 (wrap64 (x160 + 1)))))) else (if ((rd_T35 x158 x160).f0) = x19 then (if x28 = true then (laws_FnServers.l1 k x1 x19 x25 x26 ((rd_T35 x158 x160).f2) true x158 x159 (wrap64 (x160 + 1))) else (laws_FnServers.l1 k x1 x19 x25 x26 ((rd_T35 x158 x160).f2) false x158 x159 (wrap64 (x160 + 1)))) else (if x28 = true then (laws_FnServers.l1 k x1 x19 x25 x26 false true x158 x159 (wrap64 (x160 + 1))) else (if (rd_T35 x158 x160).f2 = true then (laws_FnServers.l1 k x1 x19 x25 x26 false (((rd_T35 x158 x160).f1) == 127) x158 x159 (wrap64 (x160 + 1))) else (laws_FnServers.l1 k x1 x19 x25 x26 false false x158 x159 (wrap64 (x160 + 1))))))) else (none)) else (none)) else (if x27 = true then (if x28 = true then (laws_FnServers.j7 k x1 false) else (if x26 = true then (laws_FnServers.j7 k x1 (x25 != x19)) else (none))) else (laws_FnServers.j7 k x1 false))
def laws_FnServers.j7 : Nat → List Int → Bool → Option (Bool)
  | 0, _, _ => none
  | k + 1, x1, x205 => if x205 = true then (none) else (laws_FnServers.j8 k x1)
def laws_FnServers.j1 : Nat → List Int → Int → List Int → List Int → Bool → Option (Bool)
  | 0, _, _, _, _, _ => none
  | k + 1, x1, x6, x8, x12, x103 => if x103 = true then (none) else (laws_FnServers.l0 k x1 x6 x8 x12 (x12.length : Int) 0)
def laws_FnServers.l0 : Nat → List Int → Int → List Int → List Int → Int → Int → Option (Bool)
  | 0, _, _, _, _, _, _ => none
  | k + 1, x1, x6, x8, x104, x105, x106 => if x106 < x105 then (if 0 ≤ x106 then (if x106 < (x104.length : Int) then ((laws_has.f k x8 x106).bind fun t345 => (if (((rd x104 x106) == x6) != t345) = true then (none) else (laws_FnServers.l0 k x1 x6 x8 x104 x105 (wrap64 (x106 + 1))))) else (none)) else (none)) else (laws_FnServers.j3 k x1)
end
def laws_FnServers.f (k : Nat) (l0 : List Int) (l1 : List Int) : Option (Bool) := if (wrap64 ((l0.length : Int) + (l1.length : Int))) > 1048576 then (some true) else ((spec_DrawMoved.f k l0).bind fun bt321 => ((impl_Moved.f k bt321.1 bt321.2.1 bt321.2.2).bind fun bt326 => ((spec_Moved.f k bt321.1 bt321.2.1 bt321.2.2).bind fun bt330 => ((impl_ServersOf.f k bt321.1 bt321.2.2).bind fun bt334 => ((spec_ServersOf.f k bt321.1 bt321.2.2).bind fun bt338 => (if (bt326.2 != bt330.2) = true then (none) else ((laws_sameInts.f k bt326.1 bt330.1).bind fun t342 => (if t342 = true then (if (bt334.2 != bt338.2) = true then (none) else ((laws_sameInts.f k bt334.1 bt338.1).bind fun t343 => (laws_FnServers.j0 k l1 bt321.2.1 bt321.2.2 bt326.1 bt326.2 bt334.1 bt334.2 (!t343)))) else (none)))))))))
theorem laws_FnServers.mono_l : ∀ k, (∀ y0 y1 y2 y3 y4 y5 y6 y7, LeO (laws_FnServers.j0 k y0 y1 y2 y3 y4 y5 y6 y7) (laws_FnServers.j0 (k + 1) y0 y1 y2 y3 y4 y5 y6 y7)) ∧ (∀ y0, LeO (laws_FnServers.j3 k y0) (laws_FnServers.j3 (k + 1) y0)) ∧ (∀ y0 y1 y2 y3 y4 y5, LeO (laws_FnServers.j4 k y0 y1 y2 y3 y4 y5) (laws_FnServers.j4 (k + 1) y0 y1 y2 y3 y4 y5)) ∧ (∀ y0 y1 y2 y3, LeO (laws_FnServers.j5 k y0 y1 y2 y3) (laws_FnServers.j5 (k + 1) y0 y1 y2 y3)) ∧ (∀ y0, LeO (laws_FnServers.j8 k y0) (laws_FnServers.j8 (k + 1) y0)) ∧ (∀ y0 y1 y2 y3 y4 y5 y6 y7 y8, LeO (laws_FnServers.l1 k y0 y1 y2 y3 y4 y5 y6 y7 y8) (laws_FnServers.l1 (k + 1) y0 y1 y2 y3 y4 y5 y6 y7 y8)) ∧ (∀ y0 y1, LeO (laws_FnServers.j7 k y0 y1) (laws_FnServers.j7 (k + 1) y0 y1)) ∧ (∀ y0 y1 y2 y3 y4, LeO (laws_FnServers.j1 k y0 y1 y2 y3 y4) (laws_FnServers.j1 (k + 1) y0 y1 y2 y3 y4)) ∧ (∀ y0 y1 y2 y3 y4 y5, LeO (laws_FnServers.l0 k y0 y1 y2 y3 y4 y5) (laws_FnServers.l0 (k + 1) y0 y1 y2 y3 y4 y5))
  | 0 => ⟨fun _ _ _ _ _ _ _ _ r h => by simp [laws_FnServers.j0] at h, fun _ r h => by simp [laws_FnServers.j3] at h, fun _ _ _ _ _ _ r h => by simp [laws_FnServers.j4] at h, fun _ _ _ _ r h => by simp [laws_FnServers.j5] at h, fun _ r h => by simp [laws_FnServers.j8] at h, fun _ _ _ _ _ _ _ _ _ r h => by simp [laws_FnServers.l1] at h, fun _ _ r h => by simp [laws_FnServers.j7] at h, fun _ _ _ _ _ r h => by simp [laws_FnServers.j1] at h, fun _ _ _ _ _ _ r h => by simp [laws_FnServers.l0] at h⟩
  | k + 1 => by
    obtain ⟨ih0, ih1, ih2, ih3, ih4, ih5, ih6, ih7, ih8⟩ := laws_FnServers.mono_l k
    refine ⟨?_, ?_, ?_, ?_, ?_, ?_, ?_, ?_, ?_⟩
    · intro y0 y1 y2 y3 y4 y5 y6 y7
      unfold laws_FnServers.j0
      repeat' first
      | (with_reducible exact ih0 _ _ _ _ _ _ _ _)
      | (with_reducible exact ih1 _)
      | (with_reducible exact ih2 _ _ _ _ _ _)
      | (with_reducible exact ih3 _ _ _ _)
      | (with_reducible exact ih4 _)
      | (with_reducible exact ih5 _ _ _ _ _ _ _ _ _)
      | (with_reducible exact ih6 _ _)
      | (with_reducible exact ih7 _ _ _ _ _)
      | (with_reducible exact ih8 _ _ _ _ _ _)
      | (with_reducible exact impl_LeaderOf.mono _ _)
      | (with_reducible exact impl_Moved.mono _ _ _ _)
      | (with_reducible exact impl_ServersOf.mono _ _ _)
      | (with_reducible exact impl_SetRank.mono _ _ _ _)
      | (with_reducible exact laws_has.mono _ _ _)
      | (with_reducible exact laws_sameBridges.mono _ _ _)
      | (with_reducible exact laws_sameInts.mono _ _ _)
      | (with_reducible exact spec_DrawMoved.mono _ _)
      | (with_reducible exact spec_DrawServersOf.mono _ _)
      | (with_reducible exact spec_DrawSetRank.mono _ _)
      | (with_reducible exact spec_Moved.mono _ _ _ _)
      | (with_reducible exact spec_ServersOf.mono _ _ _)
      | (with_reducible exact spec_SetRank.mono _ _ _ _)
      | (with_reducible exact LeO.refl _)
      | (with_reducible exact LeO.none _)
      | (with_reducible refine LeO.ite ?_ ?_)
      | (with_reducible refine LeO.bind ?_ (fun _ => ?_))
      | exact ih0 _ _ _ _ _ _ _ _
      | exact ih1 _
      | exact ih2 _ _ _ _ _ _
      | exact ih3 _ _ _ _
      | exact ih4 _
      | exact ih5 _ _ _ _ _ _ _ _ _
      | exact ih6 _ _
      | exact ih7 _ _ _ _ _
      | exact ih8 _ _ _ _ _ _
      | exact impl_LeaderOf.mono _ _
      | exact impl_Moved.mono _ _ _ _
      | exact impl_ServersOf.mono _ _ _
      | exact impl_SetRank.mono _ _ _ _
      | exact laws_has.mono _ _ _
      | exact laws_sameBridges.mono _ _ _
      | exact laws_sameInts.mono _ _ _
      | exact spec_DrawMoved.mono _ _
      | exact spec_DrawServersOf.mono _ _
      | exact spec_DrawSetRank.mono _ _
      | exact spec_Moved.mono _ _ _ _
      | exact spec_ServersOf.mono _ _ _
      | exact spec_SetRank.mono _ _ _ _
      | exact LeO.none _
      | refine LeO.ite ?_ ?_
      | refine LeO.bind ?_ (fun _ => ?_)
    · intro y0
      unfold laws_FnServers.j3
      repeat' first
      | (with_reducible exact ih0 _ _ _ _ _ _ _ _)
      | (with_reducible exact ih1 _)
      | (with_reducible exact ih2 _ _ _ _ _ _)
      | (with_reducible exact ih3 _ _ _ _)
      | (with_reducible exact ih4 _)
      | (with_reducible exact ih5 _ _ _ _ _ _ _ _ _)
      | (with_reducible exact ih6 _ _)
      | (with_reducible exact ih7 _ _ _ _ _)
      | (with_reducible exact ih8 _ _ _ _ _ _)
      | (with_reducible exact impl_LeaderOf.mono _ _)
      | (with_reducible exact impl_Moved.mono _ _ _ _)
      | (with_reducible exact impl_ServersOf.mono _ _ _)
      | (with_reducible exact impl_SetRank.mono _ _ _ _)
      | (with_reducible exact laws_has.mono _ _ _)
      | (with_reducible exact laws_sameBridges.mono _ _ _)
      | (with_reducible exact laws_sameInts.mono _ _ _)
      | (with_reducible exact spec_DrawMoved.mono _ _)
      | (with_reducible exact spec_DrawServersOf.mono _ _)
      | (with_reducible exact spec_DrawSetRank.mono _ _)
      | (with_reducible exact spec_Moved.mono _ _ _ _)
      | (with_reducible exact spec_ServersOf.mono _ _ _)
      | (with_reducible exact spec_SetRank.mono _ _ _ _)
      | (with_reducible exact LeO.refl _)
      | (with_reducible exact LeO.none _)
      | (with_reducible refine LeO.ite ?_ ?_)
      | (with_reducible refine LeO.bind ?_ (fun _ => ?_))
      | exact ih0 _ _ _ _ _ _ _ _
      | exact ih1 _
      | exact ih2 _ _ _ _ _ _
      | exact ih3 _ _ _ _
      | exact ih4 _
      | exact ih5 _ _ _ _ _ _ _ _ _
      | exact ih6 _ _
      | exact ih7 _ _ _ _ _
      | exact ih8 _ _ _ _ _ _
      | exact impl_LeaderOf.mono _ _
      | exact impl_Moved.mono _ _ _ _
      | exact impl_ServersOf.mono _ _ _
      | exact impl_SetRank.mono _ _ _ _
      | exact laws_has.mono _ _ _
      | exact laws_sameBridges.mono _ _ _
      | exact laws_sameInts.mono _ _ _
      | exact spec_DrawMoved.mono _ _
      | exact spec_DrawServersOf.mono _ _
      | exact spec_DrawSetRank.mono _ _
      | exact spec_Moved.mono _ _ _ _
      | exact spec_ServersOf.mono _ _ _
      | exact spec_SetRank.mono _ _ _ _
      | exact LeO.none _
      | refine LeO.ite ?_ ?_
      | refine LeO.bind ?_ (fun _ => ?_)
    · intro y0 y1 y2 y3 y4 y5
      unfold laws_FnServers.j4
      repeat' first
      | (with_reducible exact ih0 _ _ _ _ _ _ _ _)
      | (with_reducible exact ih1 _)
      | (with_reducible exact ih2 _ _ _ _ _ _)
      | (with_reducible exact ih3 _ _ _ _)
      | (with_reducible exact ih4 _)
      | (with_reducible exact ih5 _ _ _ _ _ _ _ _ _)
      | (with_reducible exact ih6 _ _)
      | (with_reducible exact ih7 _ _ _ _ _)
      | (with_reducible exact ih8 _ _ _ _ _ _)
      | (with_reducible exact impl_LeaderOf.mono _ _)
      | (with_reducible exact impl_Moved.mono _ _ _ _)
      | (with_reducible exact impl_ServersOf.mono _ _ _)
      | (with_reducible exact impl_SetRank.mono _ _ _ _)
      | (with_reducible exact laws_has.mono _ _ _)
      | (with_reducible exact laws_sameBridges.mono _ _ _)
      | (with_reducible exact laws_sameInts.mono _ _ _)
      | (with_reducible exact spec_DrawMoved.mono _ _)
      | (with_reducible exact spec_DrawServersOf.mono _ _)
      | (with_reducible exact spec_DrawSetRank.mono _ _)
      | (with_reducible exact spec_Moved.mono _ _ _ _)
      | (with_reducible exact spec_ServersOf.mono _ _ _)
      | (with_reducible exact spec_SetRank.mono _ _ _ _)
      | (with_reducible exact LeO.refl _)
      | (with_reducible exact LeO.none _)
      | (with_reducible refine LeO.ite ?_ ?_)
      | (with_reducible refine LeO.bind ?_ (fun _ => ?_))
      | exact ih0 _ _ _ _ _ _ _ _
      | exact ih1 _
      | exact ih2 _ _ _ _ _ _
      | exact ih3 _ _ _ _
      | exact ih4 _
      | exact ih5 _ _ _ _ _ _ _ _ _
      | exact ih6 _ _
      | exact ih7 _ _ _ _ _
      | exact ih8 _ _ _ _ _ _
      | exact impl_LeaderOf.mono _ _
      | exact impl_Moved.mono _ _ _ _
      | exact impl_ServersOf.mono _ _ _
      | exact impl_SetRank.mono _ _ _ _
      | exact laws_has.mono _ _ _
      | exact laws_sameBridges.mono _ _ _
      | exact laws_sameInts.mono _ _ _
      | exact spec_DrawMoved.mono _ _
      | exact spec_DrawServersOf.mono _ _
      | exact spec_DrawSetRank.mono _ _
      | exact spec_Moved.mono _ _ _ _
      | exact spec_ServersOf.mono _ _ _
      | exact spec_SetRank.mono _ _ _ _
      | exact LeO.none _
      | refine LeO.ite ?_ ?_
      | refine LeO.bind ?_ (fun _ => ?_)
    · intro y0 y1 y2 y3
      unfold laws_FnServers.j5
      repeat' first
      | (with_reducible exact ih0 _ _ _ _ _ _ _ _)
      | (with_reducible exact ih1 _)
      | (with_reducible exact ih2 _ _ _ _ _ _)
      | (with_reducible exact ih3 _ _ _ _)
      | (with_reducible exact ih4 _)
      | (with_reducible exact ih5 _ _ _ _ _ _ _ _ _)
      | (with_reducible exact ih6 _ _)
      | (with_reducible exact ih7 _ _ _ _ _)
      | (with_reducible exact ih8 _ _ _ _ _ _)
      | (with_reducible exact impl_LeaderOf.mono _ _)
      | (with_reducible exact impl_Moved.mono _ _ _ _)
      | (with_reducible exact impl_ServersOf.mono _ _ _)
      | (with_reducible exact impl_SetRank.mono _ _ _ _)
      | (with_reducible exact laws_has.mono _ _ _)
      | (with_reducible exact laws_sameBridges.mono _ _ _)
      | (with_reducible exact laws_sameInts.mono _ _ _)
      | (with_reducible exact spec_DrawMoved.mono _ _)
      | (with_reducible exact spec_DrawServersOf.mono _ _)
      | (with_reducible exact spec_DrawSetRank.mono _ _)
      | (with_reducible exact spec_Moved.mono _ _ _ _)
      | (with_reducible exact spec_ServersOf.mono _ _ _)
      | (with_reducible exact spec_SetRank.mono _ _ _ _)
      | (with_reducible exact LeO.refl _)
      | (with_reducible exact LeO.none _)
      | (with_reducible refine LeO.ite ?_ ?_)
      | (with_reducible refine LeO.bind ?_ (fun _ => ?_))
      | exact ih0 _ _ _ _ _ _ _ _
      | exact ih1 _
      | exact ih2 _ _ _ _ _ _
      | exact ih3 _ _ _ _
      | exact ih4 _
      | exact ih5 _ _ _ _ _ _ _ _ _
      | exact ih6 _ _
      | exact ih7 _ _ _ _ _
      | exact ih8 _ _ _ _ _ _
      | exact impl_LeaderOf.mono _ _
      | exact impl_Moved.mono _ _ _ _
      | exact impl_ServersOf.mono _ _ _
      | exact impl_SetRank.mono _ _ _ _
      | exact laws_has.mono _ _ _
      | exact laws_sameBridges.mono _ _ _
      | exact laws_sameInts.mono _ _ _
      | exact spec_DrawMoved.mono _ _
      | exact spec_DrawServersOf.mono _ _
      | exact spec_DrawSetRank.mono _ _
      | exact spec_Moved.mono _ _ _ _
      | exact spec_ServersOf.mono _ _ _
      | exact spec_SetRank.mono _ _ _ _
      | exact LeO.none _
      | refine LeO.ite ?_ ?_
      | refine LeO.bind ?_ (fun _ => ?_)
    · intro y0
      unfold laws_FnServers.j8
      repeat' first
      | (with_reducible exact ih0 _ _ _ _ _ _ _ _)
      | (with_reducible exact ih1 _)
      | (with_reducible exact ih2 _ _ _ _ _ _)
      | (with_reducible exact ih3 _ _ _ _)
      | (with_reducible exact ih4 _)
      | (with_reducible exact ih5 _ _ _ _ _ _ _ _ _)
      | (with_reducible exact ih6 _ _)
      | (with_reducible exact ih7 _ _ _ _ _)
      | (with_reducible exact ih8 _ _ _ _ _ _)
      | (with_reducible exact impl_LeaderOf.mono _ _)
      | (with_reducible exact impl_Moved.mono _ _ _ _)
      | (with_reducible exact impl_ServersOf.mono _ _ _)
      | (with_reducible exact impl_SetRank.mono _ _ _ _)
      | (with_reducible exact laws_has.mono _ _ _)
      | (with_reducible exact laws_sameBridges.mono _ _ _)
      | (with_reducible exact laws_sameInts.mono _ _ _)
      | (with_reducible exact spec_DrawMoved.mono _ _)
      | (with_reducible exact spec_DrawServersOf.mono _ _)
      | (with_reducible exact spec_DrawSetRank.mono _ _)
      | (with_reducible exact spec_Moved.mono _ _ _ _)
      | (with_reducible exact spec_ServersOf.mono _ _ _)
      | (with_reducible exact spec_SetRank.mono _ _ _ _)
      | (with_reducible exact LeO.refl _)
      | (with_reducible exact LeO.none _)
      | (with_reducible refine LeO.ite ?_ ?_)
      | (with_reducible refine LeO.bind ?_ (fun _ => ?_))
      | exact ih0 _ _ _ _ _ _ _ _
      | exact ih1 _
      | exact ih2 _ _ _ _ _ _
      | exact ih3 _ _ _ _
      | exact ih4 _
      | exact ih5 _ _ _ _ _ _ _ _ _
      | exact ih6 _ _
      | exact ih7 _ _ _ _ _
      | exact ih8 _ _ _ _ _ _
      | exact impl_LeaderOf.mono _ _
      | exact impl_Moved.mono _ _ _ _
      | exact impl_ServersOf.mono _ _ _
      | exact impl_SetRank.mono _ _ _ _
      | exact laws_has.mono _ _ _
      | exact laws_sameBridges.mono _ _ _
      | exact laws_sameInts.mono _ _ _
      | exact spec_DrawMoved.mono _ _
      | exact spec_DrawServersOf.mono _ _
      | exact spec_DrawSetRank.mono _ _
      | exact spec_Moved.mono _ _ _ _
      | exact spec_ServersOf.mono _ _ _
      | exact spec_SetRank.mono _ _ _ _
      | exact LeO.none _
      | refine LeO.ite ?_ ?_
      | refine LeO.bind ?_ (fun _ => ?_)
    · intro y0 y1 y2 y3 y4 y5 y6 y7 y8
      unfold laws_FnServers.l1
      repeat' first
      | (with_reducible exact ih0 _ _ _ _ _ _ _ _)
      | (with_reducible exact ih1 _)
      | (with_reducible exact ih2 _ _ _ _ _ _)
      | (with_reducible exact ih3 _ _ _ _)
      | (with_reducible exact ih4 _)
      | (with_reducible exact ih5 _ _ _ _ _ _ _ _ _)
      | (with_reducible exact ih6 _ _)
      | (with_reducible exact ih7 _ _ _ _ _)
      | (with_reducible exact ih8 _ _ _ _ _ _)
      | (with_reducible exact impl_LeaderOf.mono _ _)
      | (with_reducible exact impl_Moved.mono _ _ _ _)
      | (with_reducible exact impl_ServersOf.mono _ _ _)
      | (with_reducible exact impl_SetRank.mono _ _ _ _)
      | (with_reducible exact laws_has.mono _ _ _)
      | (with_reducible exact laws_sameBridges.mono _ _ _)
      | (with_reducible exact laws_sameInts.mono _ _ _)
      | (with_reducible exact spec_DrawMoved.mono _ _)
      | (with_reducible exact spec_DrawServersOf.mono _ _)
      | (with_reducible exact spec_DrawSetRank.mono _ _)
      | (with_reducible exact spec_Moved.mono _ _ _ _)
      | (with_reducible exact spec_ServersOf.mono _ _ _)
      | (with_reducible exact spec_SetRank.mono _ _ _ _)
      | (with_reducible exact LeO.refl _)
      | (with_reducible exact LeO.none _)
      | (with_reducible refine LeO.ite ?_ ?_)
      | (with_reducible refine LeO.bind ?_ (fun _ => ?_))
      | exact ih0 _ _ _ _ _ _ _ _
      | exact ih1 _
      | exact ih2 _ _ _ _ _ _
      | exact ih3 _ _ _ _
      | exact ih4 _
      | exact ih5 _ _ _ _ _ _ _ _ _
      | exact ih6 _ _
      | exact ih7 _ _ _ _ _
      | exact ih8 _ _ _ _ _ _
      | exact impl_LeaderOf.mono _ _
      | exact impl_Moved.mono _ _ _ _
      | exact impl_ServersOf.mono _ _ _
      | exact impl_SetRank.mono _ _ _ _
      | exact laws_has.mono _ _ _
      | exact laws_sameBridges.mono _ _ _
      | exact laws_sameInts.mono _ _ _
      | exact spec_DrawMoved.mono _ _
      | exact spec_DrawServersOf.mono _ _
      | exact spec_DrawSetRank.mono _ _
      | exact spec_Moved.mono _ _ _ _
      | exact spec_ServersOf.mono _ _ _
      | exact spec_SetRank.mono _ _ _ _
      | exact LeO.none _
      | refine LeO.ite ?_ ?_
      | refine LeO.bind ?_ (fun _ => ?_)
    · intro y0 y1
      unfold laws_FnServers.j7
      repeat' first
      | (with_reducible exact ih0 _ _ _ _ _ _ _ _)
      | (with_reducible exact ih1 _)
      | (with_reducible exact ih2 _ _ _ _ _ _)
      | (with_reducible exact ih3 _ _ _ _)
      | (with_reducible exact ih4 _)
      | (with_reducible exact ih5 _ _ _ _ _ _ _ _ _)
      | (with_reducible exact ih6 _ _)
      | (with_reducible exact ih7 _ _ _ _ _)
      | (with_reducible exact ih8 _ _ _ _ _ _)
      | (with_reducible exact impl_LeaderOf.mono _ _)
      | (with_reducible exact impl_Moved.mono _ _ _ _)
      | (with_reducible exact impl_ServersOf.mono _ _ _)
      | (with_reducible exact impl_SetRank.mono _ _ _ _)
      | (with_reducible exact laws_has.mono _ _ _)
      | (with_reducible exact laws_sameBridges.mono _ _ _)
      | (with_reducible exact laws_sameInts.mono _ _ _)
      | (with_reducible exact spec_DrawMoved.mono _ _)
      | (with_reducible exact spec_DrawServersOf.mono _ _)
      | (with_reducible exact spec_DrawSetRank.mono _ _)
      | (with_reducible exact spec_Moved.mono _ _ _ _)
      | (with_reducible exact spec_ServersOf.mono _ _ _)
      | (with_reducible exact spec_SetRank.mono _ _ _ _)
      | (with_reducible exact LeO.refl _)
      | (with_reducible exact LeO.none _)
      | (with_reducible refine LeO.ite ?_ ?_)
      | (with_reducible refine LeO.bind ?_ (fun _ => ?_))
      | exact ih0 _ _ _ _ _ _ _ _
      | exact ih1 _
      | exact ih2 _ _ _ _ _ _
      | exact ih3 _ _ _ _
      | exact ih4 _
      | exact ih5 _ _ _ _ _ _ _ _ _
      | exact ih6 _ _
      | exact ih7 _ _ _ _ _
      | exact ih8 _ _ _ _ _ _
      | exact impl_LeaderOf.mono _ _
      | exact impl_Moved.mono _ _ _ _
      | exact impl_ServersOf.mono _ _ _
      | exact impl_SetRank.mono _ _ _ _
      | exact laws_has.mono _ _ _
      | exact laws_sameBridges.mono _ _ _
      | exact laws_sameInts.mono _ _ _
      | exact spec_DrawMoved.mono _ _
      | exact spec_DrawServersOf.mono _ _
      | exact spec_DrawSetRank.mono _ _
      | exact spec_Moved.mono _ _ _ _
      | exact spec_ServersOf.mono _ _ _
      | exact spec_SetRank.mono _ _ _ _
      | exact LeO.none _
      | refine LeO.ite ?_ ?_
      | refine LeO.bind ?_ (fun _ => ?_)
    · intro y0 y1 y2 y3 y4
      unfold laws_FnServers.j1
      repeat' first
      | (with_reducible exact ih0 _ _ _ _ _ _ _ _)
      | (with_reducible exact ih1 _)
      | (with_reducible exact ih2 _ _ _ _ _ _)
      | (with_reducible exact ih3 _ _ _ _)
      | (with_reducible exact ih4 _)
      | (with_reducible exact ih5 _ _ _ _ _ _ _ _ _)
      | (with_reducible exact ih6 _ _)
      | (with_reducible exact ih7 _ _ _ _ _)
      | (with_reducible exact ih8 _ _ _ _ _ _)
      | (with_reducible exact impl_LeaderOf.mono _ _)
      | (with_reducible exact impl_Moved.mono _ _ _ _)
      | (with_reducible exact impl_ServersOf.mono _ _ _)
      | (with_reducible exact impl_SetRank.mono _ _ _ _)
      | (with_reducible exact laws_has.mono _ _ _)
      | (with_reducible exact laws_sameBridges.mono _ _ _)
      | (with_reducible exact laws_sameInts.mono _ _ _)
      | (with_reducible exact spec_DrawMoved.mono _ _)
      | (with_reducible exact spec_DrawServersOf.mono _ _)
      | (with_reducible exact spec_DrawSetRank.mono _ _)
      | (with_reducible exact spec_Moved.mono _ _ _ _)
      | (with_reducible exact spec_ServersOf.mono _ _ _)
      | (with_reducible exact spec_SetRank.mono _ _ _ _)
      | (with_reducible exact LeO.refl _)
      | (with_reducible exact LeO.none _)
      | (with_reducible refine LeO.ite ?_ ?_)
      | (with_reducible refine LeO.bind ?_ (fun _ => ?_))
      | exact ih0 _ _ _ _ _ _ _ _
      | exact ih1 _
      | exact ih2 _ _ _ _ _ _
      | exact ih3 _ _ _ _
      | exact ih4 _
      | exact ih5 _ _ _ _ _ _ _ _ _
      | exact ih6 _ _
      | exact ih7 _ _ _ _ _
      | exact ih8 _ _ _ _ _ _
      | exact impl_LeaderOf.mono _ _
      | exact impl_Moved.mono _ _ _ _
      | exact impl_ServersOf.mono _ _ _
      | exact impl_SetRank.mono _ _ _ _
      | exact laws_has.mono _ _ _
      | exact laws_sameBridges.mono _ _ _
      | exact laws_sameInts.mono _ _ _
      | exact spec_DrawMoved.mono _ _
      | exact spec_DrawServersOf.mono _ _
      | exact spec_DrawSetRank.mono _ _
      | exact spec_Moved.mono _ _ _ _
      | exact spec_ServersOf.mono _ _ _
      | exact spec_SetRank.mono _ _ _ _
      | exact LeO.none _
      | refine LeO.ite ?_ ?_
      | refine LeO.bind ?_ (fun _ => ?_)
    · intro y0 y1 y2 y3 y4 y5
      unfold laws_FnServers.l0
      repeat' first
      | (with_reducible exact ih0 _ _ _ _ _ _ _ _)
      | (with_reducible exact ih1 _)
      | (with_reducible exact ih2 _ _ _ _ _ _)
      | (with_reducible exact ih3 _ _ _ _)
      | (with_reducible exact ih4 _)
      | (with_reducible exact ih5 _ _ _ _ _ _ _ _ _)
      | (with_reducible exact ih6 _ _)
      | (with_reducible exact ih7 _ _ _ _ _)
      | (with_reducible exact ih8 _ _ _ _ _ _)
      | (with_reducible exact impl_LeaderOf.mono _ _)
      | (with_reducible exact impl_Moved.mono _ _ _ _)
      | (with_reducible exact impl_ServersOf.mono _ _ _)
      | (with_reducible exact impl_SetRank.mono _ _ _ _)
      | (with_reducible exact laws_has.mono _ _ _)
      | (with_reducible exact laws_sameBridges.mono _ _ _)
      | (with_reducible exact laws_sameInts.mono _ _ _)
      | (with_reducible exact spec_DrawMoved.mono _ _)
      | (with_reducible exact spec_DrawServersOf.mono _ _)
      | (with_reducible exact spec_DrawSetRank.mono _ _)
      | (with_reducible exact spec_Moved.mono _ _ _ _)
      | (with_reducible exact spec_ServersOf.mono _ _ _)
      | (with_reducible exact spec_SetRank.mono _ _ _ _)
      | (with_reducible exact LeO.refl _)
      | (with_reducible exact LeO.none _)
      | (with_reducible refine LeO.ite ?_ ?_)
      | (with_reducible refine LeO.bind ?_ (fun _ => ?_))
      | exact ih0 _ _ _ _ _ _ _ _
      | exact ih1 _
      | exact ih2 _ _ _ _ _ _
      | exact ih3 _ _ _ _
      | exact ih4 _
      | exact ih5 _ _ _ _ _ _ _ _ _
      | exact ih6 _ _
      | exact ih7 _ _ _ _ _
      | exact ih8 _ _ _ _ _ _
      | exact impl_LeaderOf.mono _ _
      | exact impl_Moved.mono _ _ _ _
      | exact impl_ServersOf.mono _ _ _
      | exact impl_SetRank.mono _ _ _ _
      | exact laws_has.mono _ _ _
      | exact laws_sameBridges.mono _ _ _
      | exact laws_sameInts.mono _ _ _
      | exact spec_DrawMoved.mono _ _
      | exact spec_DrawServersOf.mono _ _
      | exact spec_DrawSetRank.mono _ _
      | exact spec_Moved.mono _ _ _ _
      | exact spec_ServersOf.mono _ _ _
      | exact spec_SetRank.mono _ _ _ _
      | exact LeO.none _
      | refine LeO.ite ?_ ?_
      | refine LeO.bind ?_ (fun _ => ?_)
theorem laws_FnServers.mono : ∀ a0 a1 k, LeO (laws_FnServers.f k a0 a1) (laws_FnServers.f (k + 1) a0 a1) := by
  intro a0 a1 k
  obtain ⟨ih0, ih1, ih2, ih3, ih4, ih5, ih6, ih7, ih8⟩ := laws_FnServers.mono_l k
  unfold laws_FnServers.f
  repeat' first
      | (with_reducible exact ih0 _ _ _ _ _ _ _ _)
      | (with_reducible exact ih1 _)
      | (with_reducible exact ih2 _ _ _ _ _ _)
      | (with_reducible exact ih3 _ _ _ _)
      | (with_reducible exact ih4 _)
      | (with_reducible exact ih5 _ _ _ _ _ _ _ _ _)
      | (with_reducible exact ih6 _ _)
      | (with_reducible exact ih7 _ _ _ _ _)
      | (with_reducible exact ih8 _ _ _ _ _ _)
      | (with_reducible exact impl_LeaderOf.mono _ _)
      | (with_reducible exact impl_Moved.mono _ _ _ _)
      | (with_reducible exact impl_ServersOf.mono _ _ _)
      | (with_reducible exact impl_SetRank.mono _ _ _ _)
      | (with_reducible exact laws_has.mono _ _ _)
      | (with_reducible exact laws_sameBridges.mono _ _ _)
      | (with_reducible exact laws_sameInts.mono _ _ _)
      | (with_reducible exact spec_DrawMoved.mono _ _)
      | (with_reducible exact spec_DrawServersOf.mono _ _)
      | (with_reducible exact spec_DrawSetRank.mono _ _)
      | (with_reducible exact spec_Moved.mono _ _ _ _)
      | (with_reducible exact spec_ServersOf.mono _ _ _)
      | (with_reducible exact spec_SetRank.mono _ _ _ _)
      | (with_reducible exact LeO.refl _)
      | (with_reducible exact LeO.none _)
      | (with_reducible refine LeO.ite ?_ ?_)
      | (with_reducible refine LeO.bind ?_ (fun _ => ?_))
      | exact ih0 _ _ _ _ _ _ _ _
      | exact ih1 _
      | exact ih2 _ _ _ _ _ _
      | exact ih3 _ _ _ _
      | exact ih4 _
      | exact ih5 _ _ _ _ _ _ _ _ _
      | exact ih6 _ _
      | exact ih7 _ _ _ _ _
      | exact ih8 _ _ _ _ _ _
      | exact impl_LeaderOf.mono _ _
      | exact impl_Moved.mono _ _ _ _
      | exact impl_ServersOf.mono _ _ _
      | exact impl_SetRank.mono _ _ _ _
      | exact laws_has.mono _ _ _
      | exact laws_sameBridges.mono _ _ _
      | exact laws_sameInts.mono _ _ _
      | exact spec_DrawMoved.mono _ _
      | exact spec_DrawServersOf.mono _ _
      | exact spec_DrawSetRank.mono _ _
      | exact spec_Moved.mono _ _ _ _
      | exact spec_ServersOf.mono _ _ _
      | exact spec_SetRank.mono _ _ _ _
      | exact LeO.none _
      | refine LeO.ite ?_ ?_
      | refine LeO.bind ?_ (fun _ => ?_)
set_option maxHeartbeats 8000000 in
set_option maxRecDepth 100000 in
theorem laws_FnServers.calls (k : Nat) (A0 : Option Addr) (c0 : Nat) (l0 : List Int) (A1 : Option Addr) (c1 : Nat) (l1 : List Int) (r : Bool) (w : World) (hr0 : Kd.C (Kd.int .u8) w A0 l0.length l0) (hc0 : l0.length ≤ c0) (hr1 : Kd.C (Kd.int .u8) w A1 l1.length l1) (hc1 : l1.length ≤ c1) (h : laws_FnServers.f k l0 l1 = some r) :
    Calls Try.prog 4 #[.slice A0 l0.length c0, .slice A1 l1.length c1] w fun e w' => e = .returned (.bool r) ∧ Below w.heap.size w w' := by
  have hu35 := Try.underlying35
  have HR0 := Aside0.mk hr0
  have HC0 := Aside0.mk hc0
  clear hr0 hc0
  have HR1 := Aside0.mk hr1
  have HC1 := Aside0.mk hc1
  clear hr1 hc1
  have HB := Aside0.mk (Below.refl w.heap.size w)
  have H : (if (wrap64 ((l0.length : Int) + (l1.length : Int))) > 1048576 then (some true) else ((spec_DrawMoved.f k l0).bind fun bt321 => ((impl_Moved.f k bt321.1 bt321.2.1 bt321.2.2).bind fun bt326 => ((spec_Moved.f k bt321.1 bt321.2.1 bt321.2.2).bind fun bt330 => ((impl_ServersOf.f k bt321.1 bt321.2.2).bind fun bt334 => ((spec_ServersOf.f k bt321.1 bt321.2.2).bind fun bt338 => (if (bt326.2 != bt330.2) = true then (none) else ((laws_sameInts.f k bt326.1 bt330.1).bind fun t342 => (if t342 = true then (if (bt334.2 != bt338.2) = true then (none) else ((laws_sameInts.f k bt334.1 bt338.1).bind fun t343 => (laws_FnServers.j0 k l1 bt321.2.1 bt321.2.2 bt326.1 bt326.2 bt334.1 bt334.2 (!t343)))) else (none)))))))))) = some r := h
  clear h
  by_cases c3 : (wrap64 ((l0.length : Int) + (l1.length : Int))) > 1048576
  · rw [if_pos c3] at H
    have c3b0 : decide (1048576 < (wrap64 ((l0.length : Int) + (l1.length : Int)))) = true := decide_eq_true c3
    clear c3
    as_aux_lemma =>
      obtain rfl := Option.some.inj H
      go_enter Try.func4, Try.ntmps4
      go_wp2
      go_ret
      exact ⟨by first | rfl | (simp [errW_none, errW_some] <;> rfl) | (simp [*, errW_none, errW_some] <;> rfl), by repeat (first | (with_reducible first | exact HB.out | apply below_alloc | apply pw_below_drewN | apply below_drew1) | exact HB.out)⟩
  · rw [if_neg c3] at H
    have c3b0 : decide (1048576 < (wrap64 ((l0.length : Int) + (l1.length : Int)))) = false := decide_eq_false c3
    clear c3
    replace H := Option.bind_eq_some_iff.mp H
    obtain ⟨⟨t321, t322, t323⟩, A40, H⟩ := H
    replace H : ((impl_Moved.f k t321 t322 t323).bind fun bt326 => ((spec_Moved.f k t321 t322 t323).bind fun bt330 => ((impl_ServersOf.f k t321 t323).bind fun bt334 => ((spec_ServersOf.f k t321 t323).bind fun bt338 => (if (bt326.2 != bt330.2) = true then (none) else ((laws_sameInts.f k bt326.1 bt330.1).bind fun t342 => (if t342 = true then (if (bt334.2 != bt338.2) = true then (none) else ((laws_sameInts.f k bt334.1 bt338.1).bind fun t343 => (laws_FnServers.j0 k l1 t322 t323 bt326.1 bt326.2 bt334.1 bt334.2 (!t343)))) else (none)))))))) = some r := H
    have A4 := Aside0.mk A40
    clear A40
    replace H := Option.bind_eq_some_iff.mp H
    obtain ⟨⟨t326, t327⟩, A50, H⟩ := H
    replace H : ((spec_Moved.f k t321 t322 t323).bind fun bt330 => ((impl_ServersOf.f k t321 t323).bind fun bt334 => ((spec_ServersOf.f k t321 t323).bind fun bt338 => (if (t327 != bt330.2) = true then (none) else ((laws_sameInts.f k t326 bt330.1).bind fun t342 => (if t342 = true then (if (bt334.2 != bt338.2) = true then (none) else ((laws_sameInts.f k bt334.1 bt338.1).bind fun t343 => (laws_FnServers.j0 k l1 t322 t323 t326 t327 bt334.1 bt334.2 (!t343)))) else (none))))))) = some r := H
    have A5 := Aside0.mk A50
    clear A50
    replace H := Option.bind_eq_some_iff.mp H
    obtain ⟨⟨t330, t331⟩, A60, H⟩ := H
    replace H : ((impl_ServersOf.f k t321 t323).bind fun bt334 => ((spec_ServersOf.f k t321 t323).bind fun bt338 => (if (t327 != t331) = true then (none) else ((laws_sameInts.f k t326 t330).bind fun t342 => (if t342 = true then (if (bt334.2 != bt338.2) = true then (none) else ((laws_sameInts.f k bt334.1 bt338.1).bind fun t343 => (laws_FnServers.j0 k l1 t322 t323 t326 t327 bt334.1 bt334.2 (!t343)))) else (none)))))) = some r := H
    have A6 := Aside0.mk A60
    clear A60
    replace H := Option.bind_eq_some_iff.mp H
    obtain ⟨⟨t334, t335⟩, A70, H⟩ := H
    replace H : ((spec_ServersOf.f k t321 t323).bind fun bt338 => (if (t327 != t331) = true then (none) else ((laws_sameInts.f k t326 t330).bind fun t342 => (if t342 = true then (if (t335 != bt338.2) = true then (none) else ((laws_sameInts.f k t334 bt338.1).bind fun t343 => (laws_FnServers.j0 k l1 t322 t323 t326 t327 t334 t335 (!t343)))) else (none))))) = some r := H
    have A7 := Aside0.mk A70
    clear A70
    replace H := Option.bind_eq_some_iff.mp H
    obtain ⟨⟨t338, t339⟩, A80, H⟩ := H
    replace H : (if (t327 != t331) = true then (none) else ((laws_sameInts.f k t326 t330).bind fun t342 => (if t342 = true then (if (t335 != t339) = true then (none) else ((laws_sameInts.f k t334 t338).bind fun t343 => (laws_FnServers.j0 k l1 t322 t323 t326 t327 t334 t335 (!t343)))) else (none)))) = some r := H
    have A8 := Aside0.mk A80
    clear A80
    have HC9 := Aside0.mk H
    clear H
    go_enter Try.func4, Try.ntmps4
    go_upto_region 8 with (first | ((with_reducible refine gate_callee (f := 18) rfl ?_); refine goesL_ (some 45) rfl rfl Try.func18 (by kernel_rfl) rfl #[.slice A0 l0.length c0] rfl (by (try simp only [List.map_toArray, List.map_cons, List.map_nil]); first | done | rfl | (simp only [List.length_drop, List.length_take]; rfl)) ?_; (with_reducible refine (spec_DrawMoved.calls k _ _ l0 t321 t322 t323 _ ?side1 ?side2 A4.out).mono ?_); (case side1 => repeat (first | exact HR0.out | (with_reducible refine Kd.C_alloc ?_ _) | (with_reducible refine Kd.C_drewN ?_ _) | (with_reducible refine Kd.C_drew ?_))); (case side2 => exact HC0.out); rintro e w10 ⟨v324, rfl, ho0, hb⟩; refine ⟨_, rfl, ?_⟩; have n0_ := Aside0.mk (Kd.R_lower ho0 (below_size (by repeat (first | (with_reducible first | exact HB.out | apply below_alloc | apply pw_below_drewN | apply below_drew1) | exact HB.out)))); have n1_ := Aside0.mk (below_step (by repeat (first | (with_reducible first | exact HB.out | apply below_alloc | apply pw_below_drewN | apply below_drew1) | exact HB.out)) hb); clear HB; have HO325 := n0_; have HB := n1_; clear n0_ n1_; (try clear hb); (try clear hb2); (try clear hk); (try clear hi); (try clear ho0); obtain ⟨Ao11, co11, eo11⟩ := Kd.R_slice HO325.out; subst eo11) | ((with_reducible refine gate_callee (f := 19) rfl ?_); refine goesL_ (some 53) rfl rfl Try.func19 (by kernel_rfl) rfl #[.slice Ao11 t321.length co11, .int .i64 t322, .int .i64 t323] rfl (by (try simp only [List.map_toArray, List.map_cons, List.map_nil]); first | done | rfl | (simp only [List.length_drop, List.length_take]; rfl)) ?_; (with_reducible refine (impl_Moved.calls k _ _ t321 t322 t323 t326 t327 _ ?side1 ?side2 A5.out).mono ?_); (case side1 => repeat (first | exact (Kd.R_reads' HO325.out).2.2 | (with_reducible refine Kd.C_alloc ?_ _) | (with_reducible refine Kd.C_drewN ?_ _) | (with_reducible refine Kd.C_drew ?_))); (case side2 => exact (Kd.R_reads' HO325.out).2.1); rintro e w12 ⟨v328, rfl, ho0, hb⟩; refine ⟨_, rfl, ?_⟩; have n0_ := Aside0.mk (Kd.R_below (by (with_reducible repeat (first | apply Kd.R_alloc | apply Kd.R_drewN | apply Kd.R_drew)); exact HO325.out) hb); have n1_ := Aside0.mk (Kd.R_lower ho0 (below_size (by repeat (first | (with_reducible first | exact HB.out | apply below_alloc | apply pw_below_drewN | apply below_drew1) | exact HB.out)))); have n2_ := Aside0.mk (below_step (by repeat (first | (with_reducible first | exact HB.out | apply below_alloc | apply pw_below_drewN | apply below_drew1) | exact HB.out)) hb); clear HO325; clear HB; have HO325 := n0_; have HO329 := n1_; have HB := n2_; clear n0_ n1_ n2_; (try clear hb); (try clear hb2); (try clear hk); (try clear hi); (try clear ho0)) | ((with_reducible refine gate_callee (f := 20) rfl ?_); refine goesL_ (some 60) rfl rfl Try.func20 (by kernel_rfl) rfl #[.slice Ao11 t321.length co11, .int .i64 t322, .int .i64 t323] rfl (by (try simp only [List.map_toArray, List.map_cons, List.map_nil]); first | done | rfl | (simp only [List.length_drop, List.length_take]; rfl)) ?_; (with_reducible refine (spec_Moved.calls k _ _ t321 t322 t323 t330 t331 _ ?side1 ?side2 A6.out).mono ?_); (case side1 => repeat (first | exact (Kd.R_reads' HO325.out).2.2 | (with_reducible refine Kd.C_alloc ?_ _) | (with_reducible refine Kd.C_drewN ?_ _) | (with_reducible refine Kd.C_drew ?_))); (case side2 => exact (Kd.R_reads' HO325.out).2.1); rintro e w13 ⟨v332, rfl, ho0, hb⟩; refine ⟨_, rfl, ?_⟩; have n0_ := Aside0.mk (Kd.R_below (by (with_reducible repeat (first | apply Kd.R_alloc | apply Kd.R_drewN | apply Kd.R_drew)); exact HO325.out) hb); have n1_ := Aside0.mk (Kd.R_elder' (by (with_reducible repeat (first | apply Kd.R_alloc | apply Kd.R_drewN | apply Kd.R_drew)); exact HO329.out) (Kd.R_base ho0) hb); have n2_ := Aside0.mk (Kd.R_lower (Kd.R_new' ho0 (Kd.R_lt (by (with_reducible repeat (first | apply Kd.R_alloc | apply Kd.R_drewN | apply Kd.R_drew)); exact HO329.out))) (below_size (by repeat (first | (with_reducible first | exact HB.out | apply below_alloc | apply pw_below_drewN | apply below_drew1) | exact HB.out)))); have n3_ := Aside0.mk (below_step (by repeat (first | (with_reducible first | exact HB.out | apply below_alloc | apply pw_below_drewN | apply below_drew1) | exact HB.out)) hb); clear HO325; clear HO329; clear HB; have HO325 := n0_; have HO329 := n1_; have HO333 := n2_; have HB := n3_; clear n0_ n1_ n2_ n3_; (try clear hb); (try clear hb2); (try clear hk); (try clear hi); (try clear ho0)) | ((with_reducible refine gate_callee (f := 21) rfl ?_); refine goesL_ (some 66) rfl rfl Try.func21 (by kernel_rfl) rfl #[.slice Ao11 t321.length co11, .int .i64 t323] rfl (by (try simp only [List.map_toArray, List.map_cons, List.map_nil]); first | done | rfl | (simp only [List.length_drop, List.length_take]; rfl)) ?_; (with_reducible refine (impl_ServersOf.calls k _ _ t321 t323 t334 t335 _ ?side1 ?side2 A7.out).mono ?_); (case side1 => repeat (first | exact (Kd.R_reads' HO325.out).2.2 | (with_reducible refine Kd.C_alloc ?_ _) | (with_reducible refine Kd.C_drewN ?_ _) | (with_reducible refine Kd.C_drew ?_))); (case side2 => exact (Kd.R_reads' HO325.out).2.1); rintro e w14 ⟨v336, rfl, ho0, hb⟩; refine ⟨_, rfl, ?_⟩; have n0_ := Aside0.mk (Kd.R_below (by (with_reducible repeat (first | apply Kd.R_alloc | apply Kd.R_drewN | apply Kd.R_drew)); exact HO325.out) hb); have n1_ := Aside0.mk (Kd.R_elder' (by (with_reducible repeat (first | apply Kd.R_alloc | apply Kd.R_drewN | apply Kd.R_drew)); exact HO329.out) (Kd.R_base ho0) hb); have n2_ := Aside0.mk (Kd.R_elder' (by (with_reducible repeat (first | apply Kd.R_alloc | apply Kd.R_drewN | apply Kd.R_drew)); exact HO333.out) (Kd.R_base ho0) hb); have n3_ := Aside0.mk (Kd.R_lower (Kd.R_new' (Kd.R_new' ho0 (Kd.R_lt (by (with_reducible repeat (first | apply Kd.R_alloc | apply Kd.R_drewN | apply Kd.R_drew)); exact HO329.out))) (Kd.R_lt (by (with_reducible repeat (first | apply Kd.R_alloc | apply Kd.R_drewN | apply Kd.R_drew)); exact HO333.out))) (below_size (by repeat (first | (with_reducible first | exact HB.out | apply below_alloc | apply pw_below_drewN | apply below_drew1) | exact HB.out)))); have n4_ := Aside0.mk (below_step (by repeat (first | (with_reducible first | exact HB.out | apply below_alloc | apply pw_below_drewN | apply below_drew1) | exact HB.out)) hb); clear HO325; clear HO329; clear HO333; clear HB; have HO325 := n0_; have HO329 := n1_; have HO333 := n2_; have HO337 := n3_; have HB := n4_; clear n0_ n1_ n2_ n3_ n4_; (try clear hb); (try clear hb2); (try clear hk); (try clear hi); (try clear ho0)) | ((with_reducible refine gate_callee (f := 22) rfl ?_); refine goesL_ (some 72) rfl rfl Try.func22 (by kernel_rfl) rfl #[.slice Ao11 t321.length co11, .int .i64 t323] rfl (by (try simp only [List.map_toArray, List.map_cons, List.map_nil]); first | done | rfl | (simp only [List.length_drop, List.length_take]; rfl)) ?_; (with_reducible refine (spec_ServersOf.calls k _ _ t321 t323 t338 t339 _ ?side1 ?side2 A8.out).mono ?_); (case side1 => repeat (first | exact (Kd.R_reads' HO325.out).2.2 | (with_reducible refine Kd.C_alloc ?_ _) | (with_reducible refine Kd.C_drewN ?_ _) | (with_reducible refine Kd.C_drew ?_))); (case side2 => exact (Kd.R_reads' HO325.out).2.1); rintro e w15 ⟨v340, rfl, ho0, hb⟩; refine ⟨_, rfl, ?_⟩; have n0_ := Aside0.mk (Kd.R_below (by (with_reducible repeat (first | apply Kd.R_alloc | apply Kd.R_drewN | apply Kd.R_drew)); exact HO325.out) hb); have n1_ := Aside0.mk (Kd.R_elder' (by (with_reducible repeat (first | apply Kd.R_alloc | apply Kd.R_drewN | apply Kd.R_drew)); exact HO329.out) (Kd.R_base ho0) hb); have n2_ := Aside0.mk (Kd.R_elder' (by (with_reducible repeat (first | apply Kd.R_alloc | apply Kd.R_drewN | apply Kd.R_drew)); exact HO333.out) (Kd.R_base ho0) hb); have n3_ := Aside0.mk (Kd.R_elder' (by (with_reducible repeat (first | apply Kd.R_alloc | apply Kd.R_drewN | apply Kd.R_drew)); exact HO337.out) (Kd.R_base ho0) hb); have n4_ := Aside0.mk (Kd.R_lower (Kd.R_new' (Kd.R_new' (Kd.R_new' ho0 (Kd.R_lt (by (with_reducible repeat (first | apply Kd.R_alloc | apply Kd.R_drewN | apply Kd.R_drew)); exact HO329.out))) (Kd.R_lt (by (with_reducible repeat (first | apply Kd.R_alloc | apply Kd.R_drewN | apply Kd.R_drew)); exact HO333.out))) (Kd.R_lt (by (with_reducible repeat (first | apply Kd.R_alloc | apply Kd.R_drewN | apply Kd.R_drew)); exact HO337.out))) (below_size (by repeat (first | (with_reducible first | exact HB.out | apply below_alloc | apply pw_below_drewN | apply below_drew1) | exact HB.out)))); have n5_ := Aside0.mk (below_step (by repeat (first | (with_reducible first | exact HB.out | apply below_alloc | apply pw_below_drewN | apply below_drew1) | exact HB.out)) hb); clear HO325; clear HO329; clear HO333; clear HO337; clear HB; have HO325 := n0_; have HO329 := n1_; have HO333 := n2_; have HO337 := n3_; have HO341 := n4_; have HB := n5_; clear n0_ n1_ n2_ n3_ n4_ n5_; (try clear hb); (try clear hb2); (try clear hk); (try clear hi); (try clear ho0)))
    (try simp only [Act.put, List.setIfInBounds_toArray, List.set_cons_zero, List.set_cons_succ])
    go_cut [94] (fun v94 wc => ∃ (kq : Nat) (x94_8 : Bool), v94 = .bool x94_8 ∧ Aside0 (laws_FnServers.j0 kq l1 t322 t323 t326 t327 t334 t335 x94_8 = some r) ∧ Aside0 (kq ≤ k) ∧ Aside0 (Kd.R (Kd.int .i64) 3 wc w.heap.size (fun k_ => some k_ ≠ (v336 : Value).ownBlock) v328 t326) ∧ Aside0 (Kd.R (Kd.int .i64) 3 wc w.heap.size (fun k_ => some k_ ≠ (v328 : Value).ownBlock) v336 t334) ∧ Aside0 (Below w.heap.size w wc))
    case first =>
      have H := HC9.out
      clear HC9
      by_cases c16 : (t327 != t331) = true
      · rw [if_pos c16] at H
        exact absurd H (by simp)
      · rw [if_neg c16] at H
        have c16b0 : (t327 != t331) = false := by simpa using c16
        (try (have c16b1 : decide (t327 = t331) = true := by simpa using c16))
        (try (have c16b2 : (t327 == t331) = true := by simpa using c16))
        clear c16
        (first | rw [c16b0] | (simp only [i64_w, i32_w]; rw [c16b0]) | skip)
        replace H := Option.bind_eq_some_iff.mp H
        obtain ⟨t342, A170, H⟩ := H
        replace H : (if t342 = true then (if (t335 != t339) = true then (none) else ((laws_sameInts.f k t334 t338).bind fun t343 => (laws_FnServers.j0 k l1 t322 t323 t326 t327 t334 t335 (!t343)))) else (none)) = some r := H
        have A17 := Aside0.mk A170
        clear A170
        by_cases c18 : t342 = true
        · subst c18
          have H1 : (if (t335 != t339) = true then (none) else ((laws_sameInts.f k t334 t338).bind fun t343 => (laws_FnServers.j0 k l1 t322 t323 t326 t327 t334 t335 (!t343)))) = some r := by rw [if_pos rfl] at H; exact H
          clear H
          have H := H1
          clear H1
          by_cases c19 : (t335 != t339) = true
          · rw [if_pos c19] at H
            exact absurd H (by simp)
          · rw [if_neg c19] at H
            have c19b0 : (t335 != t339) = false := by simpa using c19
            (try (have c19b1 : decide (t335 = t339) = true := by simpa using c19))
            (try (have c19b2 : (t335 == t339) = true := by simpa using c19))
            clear c19
            replace H := Option.bind_eq_some_iff.mp H
            obtain ⟨t343, A200, H⟩ := H
            replace H : (laws_FnServers.j0 k l1 t322 t323 t326 t327 t334 t335 (!t343)) = some r := H
            have A20 := Aside0.mk A200
            clear A200
            as_aux_lemma =>
              have H' := Aside0.mk H
              clear H
              obtain ⟨Ao21, co21, eo21⟩ := Kd.R_slice HO329.out
              subst eo21
              obtain ⟨Ao22, co22, eo22⟩ := Kd.R_slice HO333.out
              subst eo22
              go_wp2_with (first | (go_at_call 12; (with_reducible refine (laws_sameInts.calls k _ _ t326 _ _ t330 true _ ?side1 ?side2 ?side3 ?side4 A17.out).mono ?_); (case side1 => repeat (first | exact (Kd.R_reads' HO329.out).2.2 | (with_reducible refine Kd.C_alloc ?_ _) | (with_reducible refine Kd.C_drewN ?_ _) | (with_reducible refine Kd.C_drew ?_))); (case side2 => exact (Kd.R_reads' HO329.out).2.1); (case side3 => repeat (first | exact (Kd.R_reads' HO333.out).2.2 | (with_reducible refine Kd.C_alloc ?_ _) | (with_reducible refine Kd.C_drewN ?_ _) | (with_reducible refine Kd.C_drew ?_))); (case side4 => exact (Kd.R_reads' HO333.out).2.1); rintro e w' ⟨rfl, ⟨nd, rfl⟩⟩; obtain ⟨Ao23, co23, eo23⟩ := Kd.R_slice HO337.out; subst eo23; obtain ⟨Ao24, co24, eo24⟩ := Kd.R_slice HO341.out; subst eo24) | (go_at_call 12; (with_reducible refine (laws_sameInts.calls k _ _ t334 _ _ t338 t343 _ ?side1 ?side2 ?side3 ?side4 A20.out).mono ?_); (case side1 => repeat (first | exact (Kd.R_reads' HO337.out).2.2 | (with_reducible refine Kd.C_alloc ?_ _) | (with_reducible refine Kd.C_drewN ?_ _) | (with_reducible refine Kd.C_drew ?_))); (case side2 => exact (Kd.R_reads' HO337.out).2.1); (case side3 => repeat (first | exact (Kd.R_reads' HO341.out).2.2 | (with_reducible refine Kd.C_alloc ?_ _) | (with_reducible refine Kd.C_drewN ?_ _) | (with_reducible refine Kd.C_drew ?_))); (case side4 => exact (Kd.R_reads' HO341.out).2.1); rintro e w' ⟨rfl, ⟨nd, rfl⟩⟩))
              go_meet
              case rel => exact ⟨_, (!t343), (by first | rfl | (simp; done) | (simp [*]; done)), H', ⟨by first | omega | exact Nat.le_refl _⟩, ⟨by (with_reducible repeat (first | apply Kd.R_alloc | apply Kd.R_drewN | apply Kd.R_drew)); exact Kd.R_mono HO329.out (fun _ hk => hk.1.2)⟩, ⟨by (with_reducible repeat (first | apply Kd.R_alloc | apply Kd.R_drewN | apply Kd.R_drew)); exact Kd.R_mono HO337.out (fun _ hk => hk.1.1.2)⟩, ⟨by repeat (first | (with_reducible first | exact HB.out | apply below_alloc | apply pw_below_drewN | apply below_drew1) | exact HB.out)⟩⟩
        · replace c18 := Bool.eq_false_iff.mpr c18
          subst c18
          have H1 : (none) = some r := by rw [if_neg (show ¬ (false = true) by decide)] at H; exact H
          clear H
          have H := H1
          clear H1
          exact absurd H (by simp)
    case rest =>
      clear HC9
      try clear c1
      try clear c2
      try clear p2
      try clear c3
      try clear c3b0
      try clear c4
      try clear p6
      try clear c16
      try clear c16b0
      try clear c16b1
      try clear c16b2
      try clear c18
      try clear c19
      try clear c19b0
      try clear c19b1
      try clear c19b2
      try clear c20
      try clear c21
      try clear c22
      obtain ⟨kq, x94_8, rfl, HA, HJ8, HO_8, HO_12, HB⟩ := hcut
      cases kq with
      | zero => exact absurd HA.out (by simp [laws_FnServers.j0])
      | succ kj8 =>
        have H := HA.out
        clear HA
        simp only [laws_FnServers.j0] at H
        by_cases c25 : x94_8 = true
        · subst c25
          have H1 : (none) = some r := by rw [if_pos rfl] at H; exact H
          clear H
          have H := H1
          clear H1
          exact absurd H (by simp)
        · replace c25 := Bool.eq_false_iff.mpr c25
          subst c25
          have H1 : (if t327 = true then (if t335 = true then (laws_FnServers.j1 kj8 l1 t322 t326 t334 ((t334.length : Int) != t323)) else (none)) else (laws_FnServers.j3 kj8 l1)) = some r := by rw [if_neg (show ¬ (false = true) by decide)] at H; exact H
          clear H
          have H := H1
          clear H1
          have HC26 := Aside0.mk H
          clear H
          go_upto_if 95 with (fail)
          go_cut [] (fun wc => ∃ (kq : Nat), Aside0 (laws_FnServers.j3 kq l1 = some r) ∧ Aside0 (kq ≤ kj8) ∧ Aside0 (Below w.heap.size w wc))
          case first =>
            have H := HC26.out
            clear HC26
            by_cases c27 : t327 = true
            · subst c27
              have H1 : (if t335 = true then (laws_FnServers.j1 kj8 l1 t322 t326 t334 ((t334.length : Int) != t323)) else (none)) = some r := by rw [if_pos rfl] at H; exact H
              clear H
              have H := H1
              clear H1
              have HC28 := Aside0.mk H
              clear H
              go_upto_region 11 with (fail)
              go_cut [103] (fun v103 wc => ∃ (kq : Nat) (x103_27 : Bool), v103 = .bool x103_27 ∧ Aside0 (laws_FnServers.j1 kq l1 t322 t326 t334 x103_27 = some r) ∧ Aside0 (kq ≤ kj8) ∧ Aside0 (Kd.R (Kd.int .i64) 3 wc w.heap.size (fun k_ => some k_ ≠ (v336 : Value).ownBlock) v328 t326) ∧ Aside0 (Kd.R (Kd.int .i64) 3 wc w.heap.size (fun k_ => some k_ ≠ (v328 : Value).ownBlock) v336 t334) ∧ Aside0 (Below w.heap.size w wc))
              case first =>
                have H := HC28.out
                clear HC28
                by_cases c29 : t335 = true
                · subst c29
                  have H1 : (laws_FnServers.j1 kj8 l1 t322 t326 t334 ((t334.length : Int) != t323)) = some r := by rw [if_pos rfl] at H; exact H
                  clear H
                  have H := H1
                  clear H1
                  as_aux_lemma =>
                    have H' := Aside0.mk H
                    clear H
                    obtain ⟨Ao30, co30, eo30⟩ := Kd.R_slice HO_12.out
                    subst eo30
                    go_wp2
                    go_meet
                    case rel => exact ⟨_, (((t334.length : Int) != t323)), (by first | rfl | (simp; done) | (simp [*]; done)), H', ⟨by have := HJ8.out; first | omega | exact Nat.le_refl _⟩, ⟨by (with_reducible repeat (first | apply Kd.R_alloc | apply Kd.R_drewN | apply Kd.R_drew)); exact HO_8.out⟩, ⟨by (with_reducible repeat (first | apply Kd.R_alloc | apply Kd.R_drewN | apply Kd.R_drew)); exact HO_12.out⟩, ⟨by repeat (first | (with_reducible first | exact HB.out | apply below_alloc | apply pw_below_drewN | apply below_drew1) | exact HB.out)⟩⟩
                · replace c29 := Bool.eq_false_iff.mpr c29
                  subst c29
                  have H1 : (none) = some r := by rw [if_neg (show ¬ (false = true) by decide)] at H; exact H
                  clear H
                  have H := H1
                  clear H1
                  exact absurd H (by simp)
              case rest =>
                clear HC28
                try clear c1
                try clear c2
                try clear p2
                try clear c3
                try clear c3b0
                try clear c4
                try clear p6
                try clear c16
                try clear c16b0
                try clear c16b1
                try clear c16b2
                try clear c18
                try clear c19
                try clear c19b0
                try clear c19b1
                try clear c19b2
                try clear c20
                try clear c21
                try clear c22
                try clear c25
                try clear c27
                try clear c29
                try clear p2
                try clear p6
                obtain ⟨kq, x103_27, rfl, HA, HJ27, HO_8, HO_12, HB⟩ := hcut
                cases kq with
                | zero => exact absurd HA.out (by simp [laws_FnServers.j1])
                | succ kj27 =>
                  have H := HA.out
                  clear HA
                  simp only [laws_FnServers.j1] at H
                  by_cases c31 : x103_27 = true
                  · subst c31
                    have H1 : (none) = some r := by rw [if_pos rfl] at H; exact H
                    clear H
                    have H := H1
                    clear H1
                    exact absurd H (by simp)
                  · replace c31 := Bool.eq_false_iff.mpr c31
                    subst c31
                    have H1 : (laws_FnServers.l0 kj27 l1 t322 t326 t334 (t334.length : Int) 0) = some r := by rw [if_neg (show ¬ (false = true) by decide)] at H; exact H
                    clear H
                    have H := H1
                    clear H1
                    have H' := Aside0.mk H
                    clear H
                    obtain ⟨Ao32, co32, eo32⟩ := Kd.R_slice HO_12.out
                    subst eo32
                    go_wp2
                    go_loopg [106] kj27 (fun kq v106 w' => ∃ (x106_3 : Int), v106 = .int .i64 x106_3 ∧ Aside0 (laws_FnServers.l0 kq l1 t322 t326 t334 (t334.length : Int) x106_3 = some r) ∧ Aside0 (kq ≤ kj27) ∧ Aside0 (Kd.R (Kd.int .i64) 3 w' w.heap.size (fun k_ => some k_ ≠ ((.slice Ao32 t334.length co32) : Value).ownBlock) v328 t326) ∧ Aside0 (Kd.R (Kd.int .i64) 3 w' w.heap.size (fun k_ => some k_ ≠ (v328 : Value).ownBlock) (.slice Ao32 t334.length co32) t334) ∧ Aside0 (Below w.heap.size w w'))
                    case atStart => exact ⟨(0), (by first | rfl | (simp; done) | (simp [*]; done)), H', ⟨Nat.le_refl _⟩, ⟨by (with_reducible repeat (first | apply Kd.R_alloc | apply Kd.R_drewN | apply Kd.R_drew)); exact HO_8.out⟩, ⟨by (with_reducible repeat (first | apply Kd.R_alloc | apply Kd.R_drewN | apply Kd.R_drew)); exact HO_12.out⟩, ⟨by repeat (first | (with_reducible first | exact HB.out | apply below_alloc | apply pw_below_drewN | apply below_drew1) | exact HB.out)⟩⟩
                    case round =>
                      clear H'
                      try clear c1
                      try clear c2
                      try clear p2
                      try clear c3
                      try clear c3b0
                      try clear c4
                      try clear p6
                      try clear c16
                      try clear c16b0
                      try clear c16b1
                      try clear c16b2
                      try clear c18
                      try clear c19
                      try clear c19b0
                      try clear c19b1
                      try clear c19b2
                      try clear c20
                      try clear c21
                      try clear c22
                      try clear c25
                      try clear c27
                      try clear c29
                      try clear c31
                      try clear p2
                      try clear p6
                      obtain ⟨x106_3, rfl, HA, HK3, HO_8, HO_104, HB⟩ := hrel
                      cases gk with
                      | zero => exact absurd HA.out (by simp [laws_FnServers.l0])
                      | succ k3 =>
                        have H := HA.out
                        clear HA
                        simp only [laws_FnServers.l0] at H
                        by_cases c33 : x106_3 < (t334.length : Int)
                        · rw [if_pos c33] at H
                          have c33b0 : decide (x106_3 < (t334.length : Int)) = true := decide_eq_true c33
                          clear c33
                          by_cases c34 : 0 ≤ x106_3
                          · rw [if_pos c34] at H
                            have c34b0 : decide (0 ≤ x106_3) = true := decide_eq_true c34
                            clear c34
                            by_cases c35 : x106_3 < (t334.length : Int)
                            · rw [if_pos c35] at H
                              have c35b0 : decide (x106_3 < (t334.length : Int)) = true := decide_eq_true c35
                              clear c35
                              replace H := Option.bind_eq_some_iff.mp H
                              obtain ⟨t345, A360, H⟩ := H
                              replace H : (if (((rd t334 x106_3) == t322) != t345) = true then (none) else (laws_FnServers.l0 k3 l1 t322 t326 t334 (t334.length : Int) (wrap64 (x106_3 + 1)))) = some r := H
                              have A36 := Aside0.mk A360
                              clear A360
                              by_cases c37 : (((rd t334 x106_3) == t322) != t345) = true
                              · rw [if_pos c37] at H
                                exact absurd H (by simp)
                              · rw [if_neg c37] at H
                                have c37b0 : (((rd t334 x106_3) == t322) != t345) = false := by simpa using c37
                                (try (have c37b1 : decide (((rd t334 x106_3) == t322) = t345) = true := by simpa using c37))
                                (try (have c37b2 : (((rd t334 x106_3) == t322) == t345) = true := by simpa using c37))
                                clear c37
                                as_aux_lemma =>
                                  have H' := Aside0.mk H
                                  clear H
                                  have p344 : 0 ≤ (x106_3 : Int) := of_decide_eq_true (by first | (with_reducible assumption) | assumption)
                                  have q344 : x106_3 < (t334.length : Int) := of_decide_eq_true (by first | (with_reducible assumption) | assumption)
                                  obtain ⟨ad344, e344, hx344_0⟩ := Kd.at_int (Kd.R_reads' HO_104.out).2.2 x106_3 p344 q344
                                  cases e344
                                  replace p344 := eq_true p344
                                  replace q344 := eq_true q344
                                  obtain ⟨Ao38, co38, eo38⟩ := Kd.R_slice HO_8.out
                                  subst eo38
                                  go_wp2_with (first | ((with_reducible refine gate_callee (f := 23) rfl ?_); refine goesL_ (some 116) rfl rfl Try.func23 (by kernel_rfl) rfl #[.slice Ao38 t326.length co38, .int .i64 x106_3] rfl (by (try simp only [List.map_toArray, List.map_cons, List.map_nil]); first | done | rfl | (simp only [List.length_drop, List.length_take]; rfl)) ?_; (with_reducible refine (laws_has.calls k3 _ _ t326 x106_3 t345 _ ?side1 ?side2 A36.out).mono ?_); (case side1 => repeat (first | exact (Kd.R_reads' HO_8.out).2.2 | (with_reducible refine Kd.C_alloc ?_ _) | (with_reducible refine Kd.C_drewN ?_ _) | (with_reducible refine Kd.C_drew ?_))); (case side2 => exact (Kd.R_reads' HO_8.out).2.1); rintro e w' ⟨rfl, ⟨nd, rfl⟩⟩; refine ⟨_, rfl, ?_⟩))
                                  go_roundg k3
                                  case measure => have := HJ8.out; have := HJ27.out; have := HK3.out; omega
                                  case rel => exact ⟨(wrap64 (x106_3 + 1)), (by first | rfl | (simp; done) | (simp [*]; done)), H', ⟨by have := HJ8.out; have := HJ27.out; have := HK3.out; omega⟩, ⟨by (with_reducible repeat (first | apply Kd.R_alloc | apply Kd.R_drewN | apply Kd.R_drew)); exact HO_8.out⟩, ⟨by (with_reducible repeat (first | apply Kd.R_alloc | apply Kd.R_drewN | apply Kd.R_drew)); exact HO_104.out⟩, ⟨by repeat (first | (with_reducible first | exact HB.out | apply below_alloc | apply pw_below_drewN | apply below_drew1) | exact HB.out)⟩⟩
                            · rw [if_neg c35] at H
                              exact absurd H (by simp)
                          · rw [if_neg c34] at H
                            exact absurd H (by simp)
                        · rw [if_neg c33] at H
                          have c33b0 : decide (x106_3 < (t334.length : Int)) = false := decide_eq_false c33
                          clear c33
                          as_aux_lemma =>
                            have H' := Aside0.mk H
                            clear H
                            go_wp2
                            go_meet
                            case rel => exact ⟨_, H', ⟨by have := HJ8.out; have := HJ27.out; have := HK3.out; first | omega | exact Nat.le_refl _⟩, ⟨by repeat (first | (with_reducible first | exact HB.out | apply below_alloc | apply pw_below_drewN | apply below_drew1) | exact HB.out)⟩⟩
            · replace c27 := Bool.eq_false_iff.mpr c27
              subst c27
              have H1 : (laws_FnServers.j3 kj8 l1) = some r := by rw [if_neg (show ¬ (false = true) by decide)] at H; exact H
              clear H
              have H := H1
              clear H1
              as_aux_lemma =>
                have H' := Aside0.mk H
                clear H
                go_wp2
                go_meet
                case rel => exact ⟨_, H', ⟨by have := HJ8.out; first | omega | exact Nat.le_refl _⟩, ⟨by repeat (first | (with_reducible first | exact HB.out | apply below_alloc | apply pw_below_drewN | apply below_drew1) | exact HB.out)⟩⟩
          case rest =>
            clear HC26
            try clear c1
            try clear c2
            try clear p2
            try clear c3
            try clear c3b0
            try clear p3
            try clear q3
            try clear hx3
            try clear c4
            try clear p6
            try clear c16
            try clear c16b0
            try clear c16b1
            try clear c16b2
            try clear c18
            try clear c19
            try clear c19b0
            try clear c19b1
            try clear c19b2
            try clear c20
            try clear c21
            try clear c22
            try clear c23
            try clear c25
            try clear c27
            try clear c29
            try clear c31
            try clear c33
            try clear c33b0
            try clear c34
            try clear c34b0
            try clear p34
            try clear q34
            try clear hx34
            try clear c35
            try clear c35b0
            try clear c37
            try clear c37b0
            try clear c37b1
            try clear c37b2
            try clear hx344_0
            try clear p2
            try clear p344
            try clear p6
            try clear q344
            obtain ⟨kq, HA, HJ25, HB⟩ := hcut
            cases kq with
            | zero => exact absurd HA.out (by simp [laws_FnServers.j3])
            | succ kj25 =>
              have H := HA.out
              clear HA
              simp only [laws_FnServers.j3] at H
              replace H := Option.bind_eq_some_iff.mp H
              obtain ⟨⟨t346, t347, t348⟩, A390, H⟩ := H
              replace H : ((impl_SetRank.f kj25 t346 t347 t348).bind fun bt351 => ((spec_SetRank.f kj25 t346 t347 t348).bind fun bt355 => (if (bt351.2 != bt355.2) = true then (none) else ((laws_sameBridges.f kj25 bt351.1 bt355.1).bind fun t359 => (laws_FnServers.j4 kj25 l1 t347 t348 bt351.1 bt351.2 (!t359)))))) = some r := H
              have A39 := Aside0.mk A390
              clear A390
              replace H := Option.bind_eq_some_iff.mp H
              obtain ⟨⟨t351, t352⟩, A400, H⟩ := H
              replace H : ((spec_SetRank.f kj25 t346 t347 t348).bind fun bt355 => (if (t352 != bt355.2) = true then (none) else ((laws_sameBridges.f kj25 t351 bt355.1).bind fun t359 => (laws_FnServers.j4 kj25 l1 t347 t348 t351 t352 (!t359))))) = some r := H
              have A40 := Aside0.mk A400
              clear A400
              replace H := Option.bind_eq_some_iff.mp H
              obtain ⟨⟨t355, t356⟩, A410, H⟩ := H
              replace H : (if (t352 != t356) = true then (none) else ((laws_sameBridges.f kj25 t351 t355).bind fun t359 => (laws_FnServers.j4 kj25 l1 t347 t348 t351 t352 (!t359)))) = some r := H
              have A41 := Aside0.mk A410
              clear A410
              have HC42 := Aside0.mk H
              clear H
              go_upto_region 22 with (first | ((with_reducible refine gate_callee (f := 24) rfl ?_); refine goesL_ (some 121) rfl rfl Try.func24 (by kernel_rfl) rfl #[.slice A1 l1.length c1] rfl (by (try simp only [List.map_toArray, List.map_cons, List.map_nil]); first | done | rfl | (simp only [List.length_drop, List.length_take]; rfl)) ?_; (with_reducible refine (spec_DrawSetRank.calls kj25 _ _ l1 t346 t347 t348 _ ?side1 ?side2 A39.out).mono ?_); (case side1 => repeat (first | exact (Kd.C_below HR1.out HB.out) | (with_reducible refine Kd.C_alloc ?_ _) | (with_reducible refine Kd.C_drewN ?_ _) | (with_reducible refine Kd.C_drew ?_))); (case side2 => exact HC1.out); rintro e w43 ⟨v349, rfl, ho0, hb⟩; refine ⟨_, rfl, ?_⟩; have n0_ := Aside0.mk (Kd.R_lower ho0 (below_size (by repeat (first | (with_reducible first | exact HB.out | apply below_alloc | apply pw_below_drewN | apply below_drew1) | exact HB.out)))); have n1_ := Aside0.mk (below_step (by repeat (first | (with_reducible first | exact HB.out | apply below_alloc | apply pw_below_drewN | apply below_drew1) | exact HB.out)) hb); clear HB; have HO350 := n0_; have HB := n1_; clear n0_ n1_; (try clear hb); (try clear hb2); (try clear hk); (try clear hi); (try clear ho0); obtain ⟨Ao44, co44, eo44⟩ := Kd.R_slice HO350.out; subst eo44) | ((with_reducible refine gate_callee (f := 25) rfl ?_); refine goesL_ (some 129) rfl rfl Try.func25 (by kernel_rfl) rfl #[.slice Ao44 t346.length co44, .int .i64 t347, .int .i64 t348] rfl (by (try simp only [List.map_toArray, List.map_cons, List.map_nil]); first | done | rfl | (simp only [List.length_drop, List.length_take]; rfl)) ?_; (with_reducible refine (impl_SetRank.calls kj25 _ _ t346 t347 t348 t351 t352 _ ?side1 ?side2 A40.out).mono ?_); (case side1 => repeat (first | exact (Kd.R_reads' HO350.out).2.2 | (with_reducible refine Kd.C_alloc ?_ _) | (with_reducible refine Kd.C_drewN ?_ _) | (with_reducible refine Kd.C_drew ?_))); (case side2 => exact (Kd.R_reads' HO350.out).2.1); rintro e w45 ⟨v353, rfl, ho0, hb⟩; refine ⟨_, rfl, ?_⟩; have n0_ := Aside0.mk (Kd.R_elder' (by (with_reducible repeat (first | apply Kd.R_alloc | apply Kd.R_drewN | apply Kd.R_drew)); exact HO350.out) (Kd.R_base ho0) hb); have n1_ := Aside0.mk (Kd.R_lower (Kd.R_new' ho0 (Kd.R_lt (by (with_reducible repeat (first | apply Kd.R_alloc | apply Kd.R_drewN | apply Kd.R_drew)); exact HO350.out))) (below_size (by repeat (first | (with_reducible first | exact HB.out | apply below_alloc | apply pw_below_drewN | apply below_drew1) | exact HB.out)))); have n2_ := Aside0.mk (below_step (by repeat (first | (with_reducible first | exact HB.out | apply below_alloc | apply pw_below_drewN | apply below_drew1) | exact HB.out)) hb); clear HO350; clear HB; have HO350 := n0_; have HO354 := n1_; have HB := n2_; clear n0_ n1_ n2_; (try clear hb); (try clear hb2); (try clear hk); (try clear hi); (try clear ho0)) | ((with_reducible refine gate_callee (f := 26) rfl ?_); refine goesL_ (some 136) rfl rfl Try.func26 (by kernel_rfl) rfl #[.slice Ao44 t346.length co44, .int .i64 t347, .int .i64 t348] rfl (by (try simp only [List.map_toArray, List.map_cons, List.map_nil]); first | done | rfl | (simp only [List.length_drop, List.length_take]; rfl)) ?_; (with_reducible refine (spec_SetRank.calls kj25 _ _ t346 t347 t348 t355 t356 _ ?side1 ?side2 A41.out).mono ?_); (case side1 => repeat (first | exact (Kd.R_reads' HO350.out).2.2 | (with_reducible refine Kd.C_alloc ?_ _) | (with_reducible refine Kd.C_drewN ?_ _) | (with_reducible refine Kd.C_drew ?_))); (case side2 => exact (Kd.R_reads' HO350.out).2.1); rintro e w46 ⟨v357, rfl, ho0, hb⟩; refine ⟨_, rfl, ?_⟩; have n0_ := Aside0.mk (Kd.R_elder' (by (with_reducible repeat (first | apply Kd.R_alloc | apply Kd.R_drewN | apply Kd.R_drew)); exact HO350.out) (Kd.R_base ho0) hb); have n1_ := Aside0.mk (Kd.R_elder' (by (with_reducible repeat (first | apply Kd.R_alloc | apply Kd.R_drewN | apply Kd.R_drew)); exact HO354.out) (Kd.R_base ho0) hb); have n2_ := Aside0.mk (Kd.R_lower (Kd.R_new' (Kd.R_new' ho0 (Kd.R_lt (by (with_reducible repeat (first | apply Kd.R_alloc | apply Kd.R_drewN | apply Kd.R_drew)); exact HO350.out))) (Kd.R_lt (by (with_reducible repeat (first | apply Kd.R_alloc | apply Kd.R_drewN | apply Kd.R_drew)); exact HO354.out))) (below_size (by repeat (first | (with_reducible first | exact HB.out | apply below_alloc | apply pw_below_drewN | apply below_drew1) | exact HB.out)))); have n3_ := Aside0.mk (below_step (by repeat (first | (with_reducible first | exact HB.out | apply below_alloc | apply pw_below_drewN | apply below_drew1) | exact HB.out)) hb); clear HO350; clear HO354; clear HB; have HO350 := n0_; have HO354 := n1_; have HO358 := n2_; have HB := n3_; clear n0_ n1_ n2_ n3_; (try clear hb); (try clear hb2); (try clear hk); (try clear hi); (try clear ho0)))
              (try simp only [Act.put, List.setIfInBounds_toArray, List.set_cons_zero, List.set_cons_succ])
              go_cut [147] (fun v147 wc => ∃ (kq : Nat) (x147_41 : Bool), v147 = .bool x147_41 ∧ Aside0 (laws_FnServers.j4 kq l1 t347 t348 t351 t352 x147_41 = some r) ∧ Aside0 (kq ≤ kj25) ∧ Aside0 (Kd.R k35 35 wc w.heap.size (fun _ => True) v353 t351) ∧ Aside0 (Below w.heap.size w wc))
              case first =>
                have H := HC42.out
                clear HC42
                by_cases c47 : (t352 != t356) = true
                · rw [if_pos c47] at H
                  exact absurd H (by simp)
                · rw [if_neg c47] at H
                  have c47b0 : (t352 != t356) = false := by simpa using c47
                  (try (have c47b1 : decide (t352 = t356) = true := by simpa using c47))
                  (try (have c47b2 : (t352 == t356) = true := by simpa using c47))
                  clear c47
                  (first | rw [c47b0] | (simp only [i64_w, i32_w]; rw [c47b0]) | skip)
                  replace H := Option.bind_eq_some_iff.mp H
                  obtain ⟨t359, A480, H⟩ := H
                  replace H : (laws_FnServers.j4 kj25 l1 t347 t348 t351 t352 (!t359)) = some r := H
                  have A48 := Aside0.mk A480
                  clear A480
                  as_aux_lemma =>
                    have H' := Aside0.mk H
                    clear H
                    obtain ⟨Ao49, co49, eo49⟩ := Kd.R_slice HO354.out
                    subst eo49
                    obtain ⟨Ao50, co50, eo50⟩ := Kd.R_slice HO358.out
                    subst eo50
                    go_wp2_with (first | (go_at_call 27; (with_reducible refine (laws_sameBridges.calls kj25 _ _ t351 _ _ t355 t359 _ ?side1 ?side2 ?side3 ?side4 A48.out).mono ?_); (case side1 => repeat (first | exact (Kd.R_reads' HO354.out).2.2 | (with_reducible refine Kd.C_alloc ?_ _) | (with_reducible refine Kd.C_drewN ?_ _) | (with_reducible refine Kd.C_drew ?_))); (case side2 => exact (Kd.R_reads' HO354.out).2.1); (case side3 => repeat (first | exact (Kd.R_reads' HO358.out).2.2 | (with_reducible refine Kd.C_alloc ?_ _) | (with_reducible refine Kd.C_drewN ?_ _) | (with_reducible refine Kd.C_drew ?_))); (case side4 => exact (Kd.R_reads' HO358.out).2.1); rintro e w' ⟨rfl, ⟨nd, rfl⟩⟩))
                    go_meet
                    case rel => exact ⟨_, (!t359), (by first | rfl | (simp; done) | (simp [*]; done)), H', ⟨by have := HJ8.out; have := HJ25.out; first | omega | exact Nat.le_refl _⟩, ⟨by (with_reducible repeat (first | apply Kd.R_alloc | apply Kd.R_drewN | apply Kd.R_drew)); exact Kd.R_mono HO354.out (fun _ hk => trivial)⟩, ⟨by repeat (first | (with_reducible first | exact HB.out | apply below_alloc | apply pw_below_drewN | apply below_drew1) | exact HB.out)⟩⟩
              case rest =>
                clear HC42
                try clear c1
                try clear c2
                try clear p2
                try clear c3
                try clear c3b0
                try clear p3
                try clear q3
                try clear hx3
                try clear c4
                try clear p6
                try clear c16
                try clear c16b0
                try clear c16b1
                try clear c16b2
                try clear c18
                try clear c19
                try clear c19b0
                try clear c19b1
                try clear c19b2
                try clear c20
                try clear c21
                try clear c22
                try clear c23
                try clear c24
                try clear c25
                try clear c26
                try clear c27
                try clear c29
                try clear c31
                try clear c33
                try clear c33b0
                try clear c34
                try clear c34b0
                try clear p34
                try clear q34
                try clear hx34
                try clear c35
                try clear c35b0
                try clear c37
                try clear c37b0
                try clear c37b1
                try clear c37b2
                try clear c47
                try clear c47b0
                try clear c47b1
                try clear c47b2
                try clear hx344_0
                try clear p2
                try clear p3
                try clear p34
                try clear p344
                try clear p6
                try clear q3
                try clear q34
                try clear q344
                obtain ⟨kq, x147_41, rfl, HA, HJ41, HO_21, HB⟩ := hcut
                cases kq with
                | zero => exact absurd HA.out (by simp [laws_FnServers.j4])
                | succ kj41 =>
                  have H := HA.out
                  clear HA
                  simp only [laws_FnServers.j4] at H
                  by_cases c51 : x147_41 = true
                  · subst c51
                    have H1 : (none) = some r := by rw [if_pos rfl] at H; exact H
                    clear H
                    have H := H1
                    clear H1
                    exact absurd H (by simp)
                  · replace c51 := Bool.eq_false_iff.mpr c51
                    subst c51
                    have H1 : (if t352 = true then (laws_FnServers.j5 kj41 l1 t347 t351 (t348 == 127)) else (laws_FnServers.j5 kj41 l1 t347 t351 false)) = some r := by rw [if_neg (show ¬ (false = true) by decide)] at H; exact H
                    clear H
                    have H := H1
                    clear H1
                    have HC52 := Aside0.mk H
                    clear H
                    go_upto_region 24 with (fail)
                    go_cut [152] (fun v152 wc => ∃ (kq : Nat) (x152_51 : Bool), v152 = .bool x152_51 ∧ Aside0 (laws_FnServers.j5 kq l1 t347 t351 x152_51 = some r) ∧ Aside0 (kq ≤ kj41) ∧ Aside0 (Kd.R k35 35 wc w.heap.size (fun _ => True) v353 t351) ∧ Aside0 (Below w.heap.size w wc))
                    case first =>
                      have H := HC52.out
                      clear HC52
                      by_cases c53 : t352 = true
                      · subst c53
                        have H1 : (laws_FnServers.j5 kj41 l1 t347 t351 (t348 == 127)) = some r := by rw [if_pos rfl] at H; exact H
                        clear H
                        have H := H1
                        clear H1
                        as_aux_lemma =>
                          have H' := Aside0.mk H
                          clear H
                          go_wp2
                          go_meet
                          case rel => exact ⟨_, ((t348 == 127)), (by first | rfl | (simp; done) | (simp [*]; done)), H', ⟨by have := HJ8.out; have := HJ25.out; have := HJ41.out; first | omega | exact Nat.le_refl _⟩, ⟨by (with_reducible repeat (first | apply Kd.R_alloc | apply Kd.R_drewN | apply Kd.R_drew)); exact HO_21.out⟩, ⟨by repeat (first | (with_reducible first | exact HB.out | apply below_alloc | apply pw_below_drewN | apply below_drew1) | exact HB.out)⟩⟩
                      · replace c53 := Bool.eq_false_iff.mpr c53
                        subst c53
                        have H1 : (laws_FnServers.j5 kj41 l1 t347 t351 false) = some r := by rw [if_neg (show ¬ (false = true) by decide)] at H; exact H
                        clear H
                        have H := H1
                        clear H1
                        as_aux_lemma =>
                          have H' := Aside0.mk H
                          clear H
                          go_wp2
                          go_meet
                          case rel => exact ⟨_, (false), (by first | rfl | (simp; done) | (simp [*]; done)), H', ⟨by have := HJ8.out; have := HJ25.out; have := HJ41.out; first | omega | exact Nat.le_refl _⟩, ⟨by (with_reducible repeat (first | apply Kd.R_alloc | apply Kd.R_drewN | apply Kd.R_drew)); exact HO_21.out⟩, ⟨by repeat (first | (with_reducible first | exact HB.out | apply below_alloc | apply pw_below_drewN | apply below_drew1) | exact HB.out)⟩⟩
                    case rest =>
                      clear HC52
                      try clear c1
                      try clear c2
                      try clear p2
                      try clear c3
                      try clear c3b0
                      try clear p3
                      try clear q3
                      try clear hx3
                      try clear c4
                      try clear c5
                      try clear p6
                      try clear c16
                      try clear c16b0
                      try clear c16b1
                      try clear c16b2
                      try clear c18
                      try clear c19
                      try clear c19b0
                      try clear c19b1
                      try clear c19b2
                      try clear c20
                      try clear c21
                      try clear c22
                      try clear c23
                      try clear c24
                      try clear c25
                      try clear c26
                      try clear c27
                      try clear c29
                      try clear c31
                      try clear c33
                      try clear c33b0
                      try clear c34
                      try clear c34b0
                      try clear p34
                      try clear q34
                      try clear hx34
                      try clear c35
                      try clear c35b0
                      try clear c37
                      try clear c37b0
                      try clear c37b1
                      try clear c37b2
                      try clear c47
                      try clear c47b0
                      try clear c47b1
                      try clear c47b2
                      try clear c51
                      try clear c53
                      try clear hx344_0
                      try clear p2
                      try clear p3
                      try clear p34
                      try clear p344
                      try clear p6
                      try clear q3
                      try clear q34
                      try clear q344
                      obtain ⟨kq, x152_51, rfl, HA, HJ51, HO_21, HB⟩ := hcut
                      cases kq with
                      | zero => exact absurd HA.out (by simp [laws_FnServers.j5])
                      | succ kj51 =>
                        have H := HA.out
                        clear HA
                        simp only [laws_FnServers.j5] at H
                        have HC54 := Aside0.mk H
                        clear H
                        go_upto_if 152 with (fail)
                        go_cut [] (fun wc => ∃ (kq : Nat), Aside0 (laws_FnServers.j8 kq l1 = some r) ∧ Aside0 (kq ≤ kj51) ∧ Aside0 (Below w.heap.size w wc))
                        case first =>
                          have H := HC54.out
                          clear HC54
                          by_cases c55 : x152_51 = true
                          · subst c55
                            have H1 : ((impl_LeaderOf.f kj51 t351).bind fun bt360 => (laws_FnServers.l1 kj51 l1 t347 bt360.1 bt360.2 false false t351 (t351.length : Int) 0)) = some r := by rw [if_pos rfl] at H; exact H
                            clear H
                            have H := H1
                            clear H1
                            replace H := Option.bind_eq_some_iff.mp H
                            obtain ⟨⟨t360, t361⟩, A560, H⟩ := H
                            replace H : (laws_FnServers.l1 kj51 l1 t347 t360 t361 false false t351 (t351.length : Int) 0) = some r := H
                            have A56 := Aside0.mk A560
                            clear A560
                            have H' := Aside0.mk H
                            clear H
                            obtain ⟨Ao57, co57, eo57⟩ := Kd.R_slice HO_21.out
                            subst eo57
                            go_wp2_with (first | ((with_reducible refine gate_callee (f := 10) rfl ?_); refine goesL_ (some 155) rfl rfl Try.func10 (by kernel_rfl) rfl #[.slice Ao57 t351.length co57] rfl (by (try simp only [List.map_toArray, List.map_cons, List.map_nil]); first | done | rfl | (simp only [List.length_drop, List.length_take]; rfl)) ?_; (with_reducible refine (impl_LeaderOf.calls kj51 _ _ t351 t360 t361 _ ?side1 ?side2 A56.out).mono ?_); (case side1 => repeat (first | exact (Kd.R_reads' HO_21.out).2.2 | (with_reducible refine Kd.C_alloc ?_ _) | (with_reducible refine Kd.C_drewN ?_ _) | (with_reducible refine Kd.C_drew ?_))); (case side2 => exact (Kd.R_reads' HO_21.out).2.1); rintro e w58 ⟨rfl, hb⟩; refine ⟨_, rfl, ?_⟩; have n0_ := Aside0.mk (Kd.R_below (by (with_reducible repeat (first | apply Kd.R_alloc | apply Kd.R_drewN | apply Kd.R_drew)); exact HO_21.out) hb); have n1_ := Aside0.mk (below_step (by repeat (first | (with_reducible first | exact HB.out | apply below_alloc | apply pw_below_drewN | apply below_drew1) | exact HB.out)) hb); clear HO_21; clear HB; have HO_21 := n0_; have HB := n1_; clear n0_ n1_; (try clear hb); (try clear hb2); (try clear hk); (try clear hi)))
                            go_loopg [27, 28, 160] kj51 (fun kq v27 v28 v160 w' => ∃ (x27_5 : Bool) (x28_5 : Bool) (x160_5 : Int), v27 = .bool x27_5 ∧ v28 = .bool x28_5 ∧ v160 = .int .i64 x160_5 ∧ Aside0 (laws_FnServers.l1 kq l1 t347 t360 t361 x27_5 x28_5 t351 (t351.length : Int) x160_5 = some r) ∧ Aside0 (kq ≤ kj51) ∧ Aside0 (Kd.R k35 35 w' w.heap.size (fun _ => True) (.slice Ao57 t351.length co57) t351) ∧ Aside0 (Below w.heap.size w w'))
                            case atStart => exact ⟨(false), (false), (0), (by first | rfl | (simp; done) | (simp [*]; done)), (by first | rfl | (simp; done) | (simp [*]; done)), (by first | rfl | (simp; done) | (simp [*]; done)), H', ⟨Nat.le_refl _⟩, ⟨by (with_reducible repeat (first | apply Kd.R_alloc | apply Kd.R_drewN | apply Kd.R_drew)); exact HO_21.out⟩, ⟨by repeat (first | (with_reducible first | exact HB.out | apply below_alloc | apply pw_below_drewN | apply below_drew1) | exact HB.out)⟩⟩
                            case round =>
                              clear H'
                              try clear c1
                              try clear c2
                              try clear p2
                              try clear c3
                              try clear c3b0
                              try clear p3
                              try clear q3
                              try clear hx3
                              try clear c4
                              try clear c5
                              try clear p6
                              try clear c10
                              try clear c16
                              try clear c16b0
                              try clear c16b1
                              try clear c16b2
                              try clear c18
                              try clear c19
                              try clear c19b0
                              try clear c19b1
                              try clear c19b2
                              try clear c20
                              try clear c21
                              try clear c22
                              try clear c23
                              try clear c24
                              try clear c25
                              try clear c26
                              try clear c27
                              try clear c29
                              try clear c31
                              try clear c33
                              try clear c33b0
                              try clear c34
                              try clear c34b0
                              try clear p34
                              try clear q34
                              try clear hx34
                              try clear c35
                              try clear c35b0
                              try clear c37
                              try clear c37b0
                              try clear c37b1
                              try clear c37b2
                              try clear c47
                              try clear c47b0
                              try clear c47b1
                              try clear c47b2
                              try clear c51
                              try clear c53
                              try clear c55
                              try clear hx344_0
                              try clear p2
                              try clear p3
                              try clear p34
                              try clear p344
                              try clear p6
                              try clear q3
                              try clear q34
                              try clear q344
                              obtain ⟨x27_5, x28_5, x160_5, rfl, rfl, rfl, HA, HK5, HO_158, HB⟩ := hrel
                              cases gk with
                              | zero => exact absurd HA.out (by simp [laws_FnServers.l1])
                              | succ k5 =>
                                have H := HA.out
                                clear HA
                                simp only [laws_FnServers.l1] at H
                                by_cases c59 : x160_5 < (t351.length : Int)
                                · rw [if_pos c59] at H
                                  have c59b0 : decide (x160_5 < (t351.length : Int)) = true := decide_eq_true c59
                                  clear c59
                                  (first | rw [c59b0] | (simp only [i64_w, i32_w]; rw [c59b0]) | skip)
                                  by_cases c60 : 0 ≤ x160_5
                                  · rw [if_pos c60] at H
                                    have c60b0 : decide (0 ≤ x160_5) = true := decide_eq_true c60
                                    clear c60
                                    by_cases c61 : x160_5 < (t351.length : Int)
                                    · rw [if_pos c61] at H
                                      have c61b0 : decide (x160_5 < (t351.length : Int)) = true := decide_eq_true c61
                                      clear c61
                                      by_cases c62 : x27_5 = true
                                      · subst c62
                                        have H1 : (if x28_5 = true then (laws_FnServers.l1 k5 l1 t347 t360 t361 true true t351 (t351.length : Int) (wrap64 (x160_5 + 1))) else (if ((rd_T35 t351 x160_5).f0) = t347 then (laws_FnServers.l1 k5 l1 t347 t360 t361 true false t351 (t351.length : Int) (wrap64 (x160_5 + 1))) else (if (rd_T35 t351 x160_5).f2 = true then (laws_FnServers.l1 k5 l1 t347 t360 t361 true (((rd_T35 t351 x160_5).f1) == 127) t351 (t351.length : Int) (wrap64 (x160_5 + 1))) else (laws_FnServers.l1 k5 l1 t347 t360 t361 true false t351 (t351.length : Int) (wrap64 (x160_5 + 1)))))) = some r := by rw [if_pos rfl] at H; exact H
                                        clear H
                                        have H := H1
                                        clear H1
                                        by_cases c63 : x28_5 = true
                                        · subst c63
                                          have H1 : (laws_FnServers.l1 k5 l1 t347 t360 t361 true true t351 (t351.length : Int) (wrap64 (x160_5 + 1))) = some r := by rw [if_pos rfl] at H; exact H
                                          clear H
                                          have H := H1
                                          clear H1
                                          as_aux_lemma =>
                                            have H' := Aside0.mk H
                                            clear H
                                            have p362 : 0 ≤ (x160_5 : Int) := of_decide_eq_true (by first | (with_reducible assumption) | assumption)
                                            have q362 : x160_5 < (t351.length : Int) := of_decide_eq_true (by first | (with_reducible assumption) | assumption)
                                            obtain ⟨ad362, e362, hx362_0, hx362_1, hx362_2⟩ := at_T35 (Kd.R_reads' HO_158.out).2.2 x160_5 p362 q362
                                            cases e362
                                            replace p362 := eq_true p362
                                            replace q362 := eq_true q362
                                            go_wp2_with (first | ((with_reducible refine gate_dst (N := 30) rfl ?_); (try (refine gate_guard (by rfl) ?_; dsimp only)); refine box_event ?hg (N := 30) ?hd (cs := #[.int .i64 0, .int .i64 0, .bool false]) (t := 35) ?hr ?_; (case hd => rfl); (case hg => rfl); (case hr => first | (go_simp; done) | (go_simp; rfl)); intro gb363 hg w64 hbox hb; have n0_ := Aside0.mk (Kd.R_below (Kd.R_elderB (by (with_reducible repeat (first | apply Kd.R_alloc | apply Kd.R_drewN | apply Kd.R_drew)); exact HO_158.out) gb363 (Nat.le_of_eq hg.symm)) hb); have n1_ := Aside0.mk (below_step (by repeat (first | (with_reducible first | exact HB.out | apply below_alloc | apply pw_below_drewN | apply below_drew1) | exact HB.out)) hb); have n2_ := Aside0.mk (hbox); have n3_ := Aside0.mk ((by rw [hg]; exact (below_size (by repeat (first | (with_reducible first | exact HB.out | apply below_alloc | apply pw_below_drewN | apply below_drew1) | exact HB.out))) : w.heap.size ≤ gb363)); have n4_ := Aside0.mk ((by rw [hg]; exact (below_size (by repeat (first | (with_reducible first | exact HB.out | apply below_alloc | apply pw_below_drewN | apply below_drew1) | exact HB.out))) : w.heap.size ≤ gb363)); clear HO_158; clear HB; have HO_158 := n0_; have HB := n1_; have BK363 := n2_; have GW363 := n3_; have GE363 := n4_; clear n0_ n1_ n2_ n3_ n4_; clear hb hbox hg; have hcz65_0 : w64.cell? ⟨gb363, 0, none⟩ = some (.int .i64 0) := (blk_cell BK363.out 0).trans rfl; have hcz65_1 : w64.cell? ⟨gb363, 1, none⟩ = some (.int .i64 0) := (blk_cell BK363.out 1).trans rfl; have hcz65_2 : w64.cell? ⟨gb363, 2, none⟩ = some (.bool false) := (blk_cell BK363.out 2).trans rfl; have hfz65_0 := blk_frozen BK363.out 0; have hfz65_1 := blk_frozen BK363.out 1; have hfz65_2 := blk_frozen BK363.out 2))
                                            go_roundg k5
                                            case measure => have := HJ8.out; have := HJ25.out; have := HJ41.out; have := HJ51.out; have := HK5.out; omega
                                            case rel => exact ⟨(true), (true), (wrap64 (x160_5 + 1)), (by first | rfl | (simp; done) | (simp [*]; done)), (by first | rfl | (simp; done) | (simp [*]; done)), (by first | rfl | (simp; done) | (simp [*]; done)), H', ⟨by have := HJ8.out; have := HJ25.out; have := HJ41.out; have := HJ51.out; have := HK5.out; omega⟩, ⟨by (with_reducible repeat (first | apply Kd.R_alloc | apply Kd.R_drewN | apply Kd.R_drew)); exact Kd.R_mono (Kd.R_far (p := ⟨gb363, 2, none⟩) (Kd.R_far (p := ⟨gb363, 1, none⟩) (Kd.R_far (p := ⟨gb363, 0, none⟩) (Kd.R_mono HO_158.out (fun k_ hk => (⟨hk, hk.2⟩ : _ ∧ k_ ≠ gb363))) (fun _ hk => hk.2) (.int .i64 ((rd_T35 t351 x160_5).f0))) (fun _ hk => hk.2) (.int .i64 ((rd_T35 t351 x160_5).f1))) (fun _ hk => hk.2) (.bool ((rd_T35 t351 x160_5).f2))) (fun _ hk => trivial)⟩, ⟨by repeat (first | (with_reducible first | exact HB.out | apply below_alloc | apply pw_below_drewN | apply below_drew1 | refine below_set ?_ GE363.out) | exact HB.out)⟩⟩
                                        · replace c63 := Bool.eq_false_iff.mpr c63
                                          subst c63
                                          have H1 : (if ((rd_T35 t351 x160_5).f0) = t347 then (laws_FnServers.l1 k5 l1 t347 t360 t361 true false t351 (t351.length : Int) (wrap64 (x160_5 + 1))) else (if (rd_T35 t351 x160_5).f2 = true then (laws_FnServers.l1 k5 l1 t347 t360 t361 true (((rd_T35 t351 x160_5).f1) == 127) t351 (t351.length : Int) (wrap64 (x160_5 + 1))) else (laws_FnServers.l1 k5 l1 t347 t360 t361 true false t351 (t351.length : Int) (wrap64 (x160_5 + 1))))) = some r := by rw [if_neg (show ¬ (false = true) by decide)] at H; exact H
                                          clear H
                                          have H := H1
                                          clear H1
                                          by_cases c66 : ((rd_T35 t351 x160_5).f0) = t347
                                          · rw [if_pos c66] at H
                                            have c66b0 : (((rd_T35 t351 x160_5).f0) == t347) = true := beq_iff_eq.mpr c66
                                            have c66b1 : (((rd_T35 t351 x160_5).f0) != t347) = false := bne_eq_false_iff_eq.mpr c66
                                            clear c66
                                            as_aux_lemma =>
                                              have H' := Aside0.mk H
                                              clear H
                                              have p362 : 0 ≤ (x160_5 : Int) := of_decide_eq_true (by first | (with_reducible assumption) | assumption)
                                              have q362 : x160_5 < (t351.length : Int) := of_decide_eq_true (by first | (with_reducible assumption) | assumption)
                                              obtain ⟨ad362, e362, hx362_0, hx362_1, hx362_2⟩ := at_T35 (Kd.R_reads' HO_158.out).2.2 x160_5 p362 q362
                                              cases e362
                                              replace p362 := eq_true p362
                                              replace q362 := eq_true q362
                                              go_wp2_with (first | ((with_reducible refine gate_dst (N := 30) rfl ?_); (try (refine gate_guard (by rfl) ?_; dsimp only)); refine box_event ?hg (N := 30) ?hd (cs := #[.int .i64 0, .int .i64 0, .bool false]) (t := 35) ?hr ?_; (case hd => rfl); (case hg => rfl); (case hr => first | (go_simp; done) | (go_simp; rfl)); intro gb363 hg w67 hbox hb; have n0_ := Aside0.mk (Kd.R_below (Kd.R_elderB (by (with_reducible repeat (first | apply Kd.R_alloc | apply Kd.R_drewN | apply Kd.R_drew)); exact HO_158.out) gb363 (Nat.le_of_eq hg.symm)) hb); have n1_ := Aside0.mk (below_step (by repeat (first | (with_reducible first | exact HB.out | apply below_alloc | apply pw_below_drewN | apply below_drew1) | exact HB.out)) hb); have n2_ := Aside0.mk (hbox); have n3_ := Aside0.mk ((by rw [hg]; exact (below_size (by repeat (first | (with_reducible first | exact HB.out | apply below_alloc | apply pw_below_drewN | apply below_drew1) | exact HB.out))) : w.heap.size ≤ gb363)); have n4_ := Aside0.mk ((by rw [hg]; exact (below_size (by repeat (first | (with_reducible first | exact HB.out | apply below_alloc | apply pw_below_drewN | apply below_drew1) | exact HB.out))) : w.heap.size ≤ gb363)); clear HO_158; clear HB; have HO_158 := n0_; have HB := n1_; have BK363 := n2_; have GW363 := n3_; have GE363 := n4_; clear n0_ n1_ n2_ n3_ n4_; clear hb hbox hg; have hcz68_0 : w67.cell? ⟨gb363, 0, none⟩ = some (.int .i64 0) := (blk_cell BK363.out 0).trans rfl; have hcz68_1 : w67.cell? ⟨gb363, 1, none⟩ = some (.int .i64 0) := (blk_cell BK363.out 1).trans rfl; have hcz68_2 : w67.cell? ⟨gb363, 2, none⟩ = some (.bool false) := (blk_cell BK363.out 2).trans rfl; have hfz68_0 := blk_frozen BK363.out 0; have hfz68_1 := blk_frozen BK363.out 1; have hfz68_2 := blk_frozen BK363.out 2))
                                              go_roundg k5
                                              case measure => have := HJ8.out; have := HJ25.out; have := HJ41.out; have := HJ51.out; have := HK5.out; omega
                                              case rel => exact ⟨(true), (false), (wrap64 (x160_5 + 1)), (by first | rfl | (simp; done) | (simp [*]; done)), (by first | rfl | (simp; done) | (simp [*]; done)), (by first | rfl | (simp; done) | (simp [*]; done)), H', ⟨by have := HJ8.out; have := HJ25.out; have := HJ41.out; have := HJ51.out; have := HK5.out; omega⟩, ⟨by (with_reducible repeat (first | apply Kd.R_alloc | apply Kd.R_drewN | apply Kd.R_drew)); exact Kd.R_mono (Kd.R_far (p := ⟨gb363, 2, none⟩) (Kd.R_far (p := ⟨gb363, 1, none⟩) (Kd.R_far (p := ⟨gb363, 0, none⟩) (Kd.R_mono HO_158.out (fun k_ hk => (⟨hk, hk.2⟩ : _ ∧ k_ ≠ gb363))) (fun _ hk => hk.2) (.int .i64 ((rd_T35 t351 x160_5).f0))) (fun _ hk => hk.2) (.int .i64 ((rd_T35 t351 x160_5).f1))) (fun _ hk => hk.2) (.bool ((rd_T35 t351 x160_5).f2))) (fun _ hk => trivial)⟩, ⟨by repeat (first | (with_reducible first | exact HB.out | apply below_alloc | apply pw_below_drewN | apply below_drew1 | refine below_set ?_ GE363.out) | exact HB.out)⟩⟩
                                          · rw [if_neg c66] at H
                                            have c66b0 : (((rd_T35 t351 x160_5).f0) == t347) = false := beq_eq_false_iff_ne.mpr c66
                                            have c66b1 : (((rd_T35 t351 x160_5).f0) != t347) = true := bne_iff_ne.mpr c66
                                            obtain ⟨bq69, hbq69⟩ : ∃ b_ : Bool, b_ = ((rd_T35 t351 x160_5).f2) := ⟨_, rfl⟩
                                            replace H : (if bq69 = true then (laws_FnServers.l1 k5 l1 t347 t360 t361 true (((rd_T35 t351 x160_5).f1) == 127) t351 (t351.length : Int) (wrap64 (x160_5 + 1))) else (laws_FnServers.l1 k5 l1 t347 t360 t361 true false t351 (t351.length : Int) (wrap64 (x160_5 + 1)))) = some r := by rw [← hbq69] at H; exact H
                                            have Nbq69 := Aside0.mk hbq69
                                            clear hbq69
                                            by_cases c70 : bq69 = true
                                            · subst c70
                                              have H1 : (laws_FnServers.l1 k5 l1 t347 t360 t361 true (((rd_T35 t351 x160_5).f1) == 127) t351 (t351.length : Int) (wrap64 (x160_5 + 1))) = some r := by rw [if_pos rfl] at H; exact H
                                              clear H
                                              have H := H1
                                              clear H1
                                              as_aux_lemma =>
                                                have H' := Aside0.mk H
                                                clear H
                                                have p362 : 0 ≤ (x160_5 : Int) := of_decide_eq_true (by first | (with_reducible assumption) | assumption)
                                                have q362 : x160_5 < (t351.length : Int) := of_decide_eq_true (by first | (with_reducible assumption) | assumption)
                                                obtain ⟨ad362, e362, hx362_0, hx362_1, hx362_2⟩ := at_T35 (Kd.R_reads' HO_158.out).2.2 x160_5 p362 q362
                                                (try rw [← Nbq69.out] at hx362_2)
                                                (try rw [← Nbq69.out] at hw362_2)
                                                cases e362
                                                replace p362 := eq_true p362
                                                replace q362 := eq_true q362
                                                go_wp2_with (first | ((with_reducible refine gate_dst (N := 30) rfl ?_); (try (refine gate_guard (by rfl) ?_; dsimp only)); refine box_event ?hg (N := 30) ?hd (cs := #[.int .i64 0, .int .i64 0, .bool false]) (t := 35) ?hr ?_; (case hd => rfl); (case hg => rfl); (case hr => first | (go_simp; done) | (go_simp; rfl)); intro gb363 hg w71 hbox hb; have n0_ := Aside0.mk (Kd.R_below (Kd.R_elderB (by (with_reducible repeat (first | apply Kd.R_alloc | apply Kd.R_drewN | apply Kd.R_drew)); exact HO_158.out) gb363 (Nat.le_of_eq hg.symm)) hb); have n1_ := Aside0.mk (below_step (by repeat (first | (with_reducible first | exact HB.out | apply below_alloc | apply pw_below_drewN | apply below_drew1) | exact HB.out)) hb); have n2_ := Aside0.mk (hbox); have n3_ := Aside0.mk ((by rw [hg]; exact (below_size (by repeat (first | (with_reducible first | exact HB.out | apply below_alloc | apply pw_below_drewN | apply below_drew1) | exact HB.out))) : w.heap.size ≤ gb363)); have n4_ := Aside0.mk ((by rw [hg]; exact (below_size (by repeat (first | (with_reducible first | exact HB.out | apply below_alloc | apply pw_below_drewN | apply below_drew1) | exact HB.out))) : w.heap.size ≤ gb363)); clear HO_158; clear HB; have HO_158 := n0_; have HB := n1_; have BK363 := n2_; have GW363 := n3_; have GE363 := n4_; clear n0_ n1_ n2_ n3_ n4_; clear hb hbox hg; have hcz72_0 : w71.cell? ⟨gb363, 0, none⟩ = some (.int .i64 0) := (blk_cell BK363.out 0).trans rfl; have hcz72_1 : w71.cell? ⟨gb363, 1, none⟩ = some (.int .i64 0) := (blk_cell BK363.out 1).trans rfl; have hcz72_2 : w71.cell? ⟨gb363, 2, none⟩ = some (.bool false) := (blk_cell BK363.out 2).trans rfl; have hfz72_0 := blk_frozen BK363.out 0; have hfz72_1 := blk_frozen BK363.out 1; have hfz72_2 := blk_frozen BK363.out 2))
                                                go_roundg k5
                                                case measure => have := HJ8.out; have := HJ25.out; have := HJ41.out; have := HJ51.out; have := HK5.out; omega
                                                case rel => exact ⟨(true), ((((rd_T35 t351 x160_5).f1) == 127)), (wrap64 (x160_5 + 1)), (by first | rfl | (simp; done) | (simp [*]; done)), (by first | rfl | (simp; done) | (simp [*]; done)), (by first | rfl | (simp; done) | (simp [*]; done)), H', ⟨by have := HJ8.out; have := HJ25.out; have := HJ41.out; have := HJ51.out; have := HK5.out; omega⟩, ⟨by (with_reducible repeat (first | apply Kd.R_alloc | apply Kd.R_drewN | apply Kd.R_drew)); exact Kd.R_mono (Kd.R_far (p := ⟨gb363, 2, none⟩) (Kd.R_far (p := ⟨gb363, 1, none⟩) (Kd.R_far (p := ⟨gb363, 0, none⟩) (Kd.R_mono HO_158.out (fun k_ hk => (⟨hk, hk.2⟩ : _ ∧ k_ ≠ gb363))) (fun _ hk => hk.2) (.int .i64 ((rd_T35 t351 x160_5).f0))) (fun _ hk => hk.2) (.int .i64 ((rd_T35 t351 x160_5).f1))) (fun _ hk => hk.2) (.bool true)) (fun _ hk => trivial)⟩, ⟨by repeat (first | (with_reducible first | exact HB.out | apply below_alloc | apply pw_below_drewN | apply below_drew1 | refine below_set ?_ GE363.out) | exact HB.out)⟩⟩
                                            · replace c70 := Bool.eq_false_iff.mpr c70
                                              subst c70
                                              have H1 : (laws_FnServers.l1 k5 l1 t347 t360 t361 true false t351 (t351.length : Int) (wrap64 (x160_5 + 1))) = some r := by rw [if_neg (show ¬ (false = true) by decide)] at H; exact H
                                              clear H
                                              have H := H1
                                              clear H1
                                              as_aux_lemma =>
                                                have H' := Aside0.mk H
                                                clear H
                                                have p362 : 0 ≤ (x160_5 : Int) := of_decide_eq_true (by first | (with_reducible assumption) | assumption)
                                                have q362 : x160_5 < (t351.length : Int) := of_decide_eq_true (by first | (with_reducible assumption) | assumption)
                                                obtain ⟨ad362, e362, hx362_0, hx362_1, hx362_2⟩ := at_T35 (Kd.R_reads' HO_158.out).2.2 x160_5 p362 q362
                                                (try rw [← Nbq69.out] at hx362_2)
                                                (try rw [← Nbq69.out] at hw362_2)
                                                cases e362
                                                replace p362 := eq_true p362
                                                replace q362 := eq_true q362
                                                go_wp2_with (first | ((with_reducible refine gate_dst (N := 30) rfl ?_); (try (refine gate_guard (by rfl) ?_; dsimp only)); refine box_event ?hg (N := 30) ?hd (cs := #[.int .i64 0, .int .i64 0, .bool false]) (t := 35) ?hr ?_; (case hd => rfl); (case hg => rfl); (case hr => first | (go_simp; done) | (go_simp; rfl)); intro gb363 hg w73 hbox hb; have n0_ := Aside0.mk (Kd.R_below (Kd.R_elderB (by (with_reducible repeat (first | apply Kd.R_alloc | apply Kd.R_drewN | apply Kd.R_drew)); exact HO_158.out) gb363 (Nat.le_of_eq hg.symm)) hb); have n1_ := Aside0.mk (below_step (by repeat (first | (with_reducible first | exact HB.out | apply below_alloc | apply pw_below_drewN | apply below_drew1) | exact HB.out)) hb); have n2_ := Aside0.mk (hbox); have n3_ := Aside0.mk ((by rw [hg]; exact (below_size (by repeat (first | (with_reducible first | exact HB.out | apply below_alloc | apply pw_below_drewN | apply below_drew1) | exact HB.out))) : w.heap.size ≤ gb363)); have n4_ := Aside0.mk ((by rw [hg]; exact (below_size (by repeat (first | (with_reducible first | exact HB.out | apply below_alloc | apply pw_below_drewN | apply below_drew1) | exact HB.out))) : w.heap.size ≤ gb363)); clear HO_158; clear HB; have HO_158 := n0_; have HB := n1_; have BK363 := n2_; have GW363 := n3_; have GE363 := n4_; clear n0_ n1_ n2_ n3_ n4_; clear hb hbox hg; have hcz74_0 : w73.cell? ⟨gb363, 0, none⟩ = some (.int .i64 0) := (blk_cell BK363.out 0).trans rfl; have hcz74_1 : w73.cell? ⟨gb363, 1, none⟩ = some (.int .i64 0) := (blk_cell BK363.out 1).trans rfl; have hcz74_2 : w73.cell? ⟨gb363, 2, none⟩ = some (.bool false) := (blk_cell BK363.out 2).trans rfl; have hfz74_0 := blk_frozen BK363.out 0; have hfz74_1 := blk_frozen BK363.out 1; have hfz74_2 := blk_frozen BK363.out 2))
                                                go_roundg k5
                                                case measure => have := HJ8.out; have := HJ25.out; have := HJ41.out; have := HJ51.out; have := HK5.out; omega
                                                case rel => exact ⟨(true), (false), (wrap64 (x160_5 + 1)), (by first | rfl | (simp; done) | (simp [*]; done)), (by first | rfl | (simp; done) | (simp [*]; done)), (by first | rfl | (simp; done) | (simp [*]; done)), H', ⟨by have := HJ8.out; have := HJ25.out; have := HJ41.out; have := HJ51.out; have := HK5.out; omega⟩, ⟨by (with_reducible repeat (first | apply Kd.R_alloc | apply Kd.R_drewN | apply Kd.R_drew)); exact Kd.R_mono (Kd.R_far (p := ⟨gb363, 2, none⟩) (Kd.R_far (p := ⟨gb363, 1, none⟩) (Kd.R_far (p := ⟨gb363, 0, none⟩) (Kd.R_mono HO_158.out (fun k_ hk => (⟨hk, hk.2⟩ : _ ∧ k_ ≠ gb363))) (fun _ hk => hk.2) (.int .i64 ((rd_T35 t351 x160_5).f0))) (fun _ hk => hk.2) (.int .i64 ((rd_T35 t351 x160_5).f1))) (fun _ hk => hk.2) (.bool false)) (fun _ hk => trivial)⟩, ⟨by repeat (first | (with_reducible first | exact HB.out | apply below_alloc | apply pw_below_drewN | apply below_drew1 | refine below_set ?_ GE363.out) | exact HB.out)⟩⟩
                                      · replace c62 := Bool.eq_false_iff.mpr c62
                                        subst c62
                                        have H1 : (if ((rd_T35 t351 x160_5).f0) = t347 then (if x28_5 = true then (laws_FnServers.l1 k5 l1 t347 t360 t361 ((rd_T35 t351 x160_5).f2) true t351 (t351.length : Int) (wrap64 (x160_5 + 1))) else (laws_FnServers.l1 k5 l1 t347 t360 t361 ((rd_T35 t351 x160_5).f2) false t351 (t351.length : Int) (wrap64 (x160_5 + 1)))) else (if x28_5 = true then (laws_FnServers.l1 k5 l1 t347 t360 t361 false true t351 (t351.length : Int) (wrap64 (x160_5 + 1))) else (if (rd_T35 t351 x160_5).f2 = true then (laws_FnServers.l1 k5 l1 t347 t360 t361 false (((rd_T35 t351 x160_5).f1) == 127) t351 (t351.length : Int) (wrap64 (x160_5 + 1))) else (laws_FnServers.l1 k5 l1 t347 t360 t361 false false t351 (t351.length : Int) (wrap64 (x160_5 + 1)))))) = some r := by rw [if_neg (show ¬ (false = true) by decide)] at H; exact H
                                        clear H
                                        have H := H1
                                        clear H1
                                        by_cases c75 : ((rd_T35 t351 x160_5).f0) = t347
                                        · rw [if_pos c75] at H
                                          have c75b0 : (((rd_T35 t351 x160_5).f0) == t347) = true := beq_iff_eq.mpr c75
                                          have c75b1 : (((rd_T35 t351 x160_5).f0) != t347) = false := bne_eq_false_iff_eq.mpr c75
                                          clear c75
                                          by_cases c76 : x28_5 = true
                                          · subst c76
                                            have H1 : (laws_FnServers.l1 k5 l1 t347 t360 t361 ((rd_T35 t351 x160_5).f2) true t351 (t351.length : Int) (wrap64 (x160_5 + 1))) = some r := by rw [if_pos rfl] at H; exact H
                                            clear H
                                            have H := H1
                                            clear H1
                                            as_aux_lemma =>
                                              have H' := Aside0.mk H
                                              clear H
                                              have p362 : 0 ≤ (x160_5 : Int) := of_decide_eq_true (by first | (with_reducible assumption) | assumption)
                                              have q362 : x160_5 < (t351.length : Int) := of_decide_eq_true (by first | (with_reducible assumption) | assumption)
                                              obtain ⟨ad362, e362, hx362_0, hx362_1, hx362_2⟩ := at_T35 (Kd.R_reads' HO_158.out).2.2 x160_5 p362 q362
                                              cases e362
                                              replace p362 := eq_true p362
                                              replace q362 := eq_true q362
                                              go_wp2_with (first | ((with_reducible refine gate_dst (N := 30) rfl ?_); (try (refine gate_guard (by rfl) ?_; dsimp only)); refine box_event ?hg (N := 30) ?hd (cs := #[.int .i64 0, .int .i64 0, .bool false]) (t := 35) ?hr ?_; (case hd => rfl); (case hg => rfl); (case hr => first | (go_simp; done) | (go_simp; rfl)); intro gb363 hg w77 hbox hb; have n0_ := Aside0.mk (Kd.R_below (Kd.R_elderB (by (with_reducible repeat (first | apply Kd.R_alloc | apply Kd.R_drewN | apply Kd.R_drew)); exact HO_158.out) gb363 (Nat.le_of_eq hg.symm)) hb); have n1_ := Aside0.mk (below_step (by repeat (first | (with_reducible first | exact HB.out | apply below_alloc | apply pw_below_drewN | apply below_drew1) | exact HB.out)) hb); have n2_ := Aside0.mk (hbox); have n3_ := Aside0.mk ((by rw [hg]; exact (below_size (by repeat (first | (with_reducible first | exact HB.out | apply below_alloc | apply pw_below_drewN | apply below_drew1) | exact HB.out))) : w.heap.size ≤ gb363)); have n4_ := Aside0.mk ((by rw [hg]; exact (below_size (by repeat (first | (with_reducible first | exact HB.out | apply below_alloc | apply pw_below_drewN | apply below_drew1) | exact HB.out))) : w.heap.size ≤ gb363)); clear HO_158; clear HB; have HO_158 := n0_; have HB := n1_; have BK363 := n2_; have GW363 := n3_; have GE363 := n4_; clear n0_ n1_ n2_ n3_ n4_; clear hb hbox hg; have hcz78_0 : w77.cell? ⟨gb363, 0, none⟩ = some (.int .i64 0) := (blk_cell BK363.out 0).trans rfl; have hcz78_1 : w77.cell? ⟨gb363, 1, none⟩ = some (.int .i64 0) := (blk_cell BK363.out 1).trans rfl; have hcz78_2 : w77.cell? ⟨gb363, 2, none⟩ = some (.bool false) := (blk_cell BK363.out 2).trans rfl; have hfz78_0 := blk_frozen BK363.out 0; have hfz78_1 := blk_frozen BK363.out 1; have hfz78_2 := blk_frozen BK363.out 2))
                                              go_roundg k5
                                              case measure => have := HJ8.out; have := HJ25.out; have := HJ41.out; have := HJ51.out; have := HK5.out; omega
                                              case rel => exact ⟨((rd_T35 t351 x160_5).f2), (true), (wrap64 (x160_5 + 1)), (by first | rfl | (simp; done) | (simp [*]; done)), (by first | rfl | (simp; done) | (simp [*]; done)), (by first | rfl | (simp; done) | (simp [*]; done)), H', ⟨by have := HJ8.out; have := HJ25.out; have := HJ41.out; have := HJ51.out; have := HK5.out; omega⟩, ⟨by (with_reducible repeat (first | apply Kd.R_alloc | apply Kd.R_drewN | apply Kd.R_drew)); exact Kd.R_mono (Kd.R_far (p := ⟨gb363, 2, none⟩) (Kd.R_far (p := ⟨gb363, 1, none⟩) (Kd.R_far (p := ⟨gb363, 0, none⟩) (Kd.R_mono HO_158.out (fun k_ hk => (⟨hk, hk.2⟩ : _ ∧ k_ ≠ gb363))) (fun _ hk => hk.2) (.int .i64 ((rd_T35 t351 x160_5).f0))) (fun _ hk => hk.2) (.int .i64 ((rd_T35 t351 x160_5).f1))) (fun _ hk => hk.2) (.bool ((rd_T35 t351 x160_5).f2))) (fun _ hk => trivial)⟩, ⟨by repeat (first | (with_reducible first | exact HB.out | apply below_alloc | apply pw_below_drewN | apply below_drew1 | refine below_set ?_ GE363.out) | exact HB.out)⟩⟩
                                          · replace c76 := Bool.eq_false_iff.mpr c76
                                            subst c76
                                            have H1 : (laws_FnServers.l1 k5 l1 t347 t360 t361 ((rd_T35 t351 x160_5).f2) false t351 (t351.length : Int) (wrap64 (x160_5 + 1))) = some r := by rw [if_neg (show ¬ (false = true) by decide)] at H; exact H
                                            clear H
                                            have H := H1
                                            clear H1
                                            as_aux_lemma =>
                                              have H' := Aside0.mk H
                                              clear H
                                              have p362 : 0 ≤ (x160_5 : Int) := of_decide_eq_true (by first | (with_reducible assumption) | assumption)
                                              have q362 : x160_5 < (t351.length : Int) := of_decide_eq_true (by first | (with_reducible assumption) | assumption)
                                              obtain ⟨ad362, e362, hx362_0, hx362_1, hx362_2⟩ := at_T35 (Kd.R_reads' HO_158.out).2.2 x160_5 p362 q362
                                              cases e362
                                              replace p362 := eq_true p362
                                              replace q362 := eq_true q362
                                              go_wp2_with (first | ((with_reducible refine gate_dst (N := 30) rfl ?_); (try (refine gate_guard (by rfl) ?_; dsimp only)); refine box_event ?hg (N := 30) ?hd (cs := #[.int .i64 0, .int .i64 0, .bool false]) (t := 35) ?hr ?_; (case hd => rfl); (case hg => rfl); (case hr => first | (go_simp; done) | (go_simp; rfl)); intro gb363 hg w79 hbox hb; have n0_ := Aside0.mk (Kd.R_below (Kd.R_elderB (by (with_reducible repeat (first | apply Kd.R_alloc | apply Kd.R_drewN | apply Kd.R_drew)); exact HO_158.out) gb363 (Nat.le_of_eq hg.symm)) hb); have n1_ := Aside0.mk (below_step (by repeat (first | (with_reducible first | exact HB.out | apply below_alloc | apply pw_below_drewN | apply below_drew1) | exact HB.out)) hb); have n2_ := Aside0.mk (hbox); have n3_ := Aside0.mk ((by rw [hg]; exact (below_size (by repeat (first | (with_reducible first | exact HB.out | apply below_alloc | apply pw_below_drewN | apply below_drew1) | exact HB.out))) : w.heap.size ≤ gb363)); have n4_ := Aside0.mk ((by rw [hg]; exact (below_size (by repeat (first | (with_reducible first | exact HB.out | apply below_alloc | apply pw_below_drewN | apply below_drew1) | exact HB.out))) : w.heap.size ≤ gb363)); clear HO_158; clear HB; have HO_158 := n0_; have HB := n1_; have BK363 := n2_; have GW363 := n3_; have GE363 := n4_; clear n0_ n1_ n2_ n3_ n4_; clear hb hbox hg; have hcz80_0 : w79.cell? ⟨gb363, 0, none⟩ = some (.int .i64 0) := (blk_cell BK363.out 0).trans rfl; have hcz80_1 : w79.cell? ⟨gb363, 1, none⟩ = some (.int .i64 0) := (blk_cell BK363.out 1).trans rfl; have hcz80_2 : w79.cell? ⟨gb363, 2, none⟩ = some (.bool false) := (blk_cell BK363.out 2).trans rfl; have hfz80_0 := blk_frozen BK363.out 0; have hfz80_1 := blk_frozen BK363.out 1; have hfz80_2 := blk_frozen BK363.out 2))
                                              go_roundg k5
                                              case measure => have := HJ8.out; have := HJ25.out; have := HJ41.out; have := HJ51.out; have := HK5.out; omega
                                              case rel => exact ⟨((rd_T35 t351 x160_5).f2), (false), (wrap64 (x160_5 + 1)), (by first | rfl | (simp; done) | (simp [*]; done)), (by first | rfl | (simp; done) | (simp [*]; done)), (by first | rfl | (simp; done) | (simp [*]; done)), H', ⟨by have := HJ8.out; have := HJ25.out; have := HJ41.out; have := HJ51.out; have := HK5.out; omega⟩, ⟨by (with_reducible repeat (first | apply Kd.R_alloc | apply Kd.R_drewN | apply Kd.R_drew)); exact Kd.R_mono (Kd.R_far (p := ⟨gb363, 2, none⟩) (Kd.R_far (p := ⟨gb363, 1, none⟩) (Kd.R_far (p := ⟨gb363, 0, none⟩) (Kd.R_mono HO_158.out (fun k_ hk => (⟨hk, hk.2⟩ : _ ∧ k_ ≠ gb363))) (fun _ hk => hk.2) (.int .i64 ((rd_T35 t351 x160_5).f0))) (fun _ hk => hk.2) (.int .i64 ((rd_T35 t351 x160_5).f1))) (fun _ hk => hk.2) (.bool ((rd_T35 t351 x160_5).f2))) (fun _ hk => trivial)⟩, ⟨by repeat (first | (with_reducible first | exact HB.out | apply below_alloc | apply pw_below_drewN | apply below_drew1 | refine below_set ?_ GE363.out) | exact HB.out)⟩⟩
                                        · rw [if_neg c75] at H
                                          have c75b0 : (((rd_T35 t351 x160_5).f0) == t347) = false := beq_eq_false_iff_ne.mpr c75
                                          have c75b1 : (((rd_T35 t351 x160_5).f0) != t347) = true := bne_iff_ne.mpr c75
                                          by_cases c81 : x28_5 = true
                                          · subst c81
                                            have H1 : (laws_FnServers.l1 k5 l1 t347 t360 t361 false true t351 (t351.length : Int) (wrap64 (x160_5 + 1))) = some r := by rw [if_pos rfl] at H; exact H
                                            clear H
                                            have H := H1
                                            clear H1
                                            as_aux_lemma =>
                                              have H' := Aside0.mk H
                                              clear H
                                              have p362 : 0 ≤ (x160_5 : Int) := of_decide_eq_true (by first | (with_reducible assumption) | assumption)
                                              have q362 : x160_5 < (t351.length : Int) := of_decide_eq_true (by first | (with_reducible assumption) | assumption)
                                              obtain ⟨ad362, e362, hx362_0, hx362_1, hx362_2⟩ := at_T35 (Kd.R_reads' HO_158.out).2.2 x160_5 p362 q362
                                              cases e362
                                              replace p362 := eq_true p362
                                              replace q362 := eq_true q362
                                              go_wp2_with (first | ((with_reducible refine gate_dst (N := 30) rfl ?_); (try (refine gate_guard (by rfl) ?_; dsimp only)); refine box_event ?hg (N := 30) ?hd (cs := #[.int .i64 0, .int .i64 0, .bool false]) (t := 35) ?hr ?_; (case hd => rfl); (case hg => rfl); (case hr => first | (go_simp; done) | (go_simp; rfl)); intro gb363 hg w82 hbox hb; have n0_ := Aside0.mk (Kd.R_below (Kd.R_elderB (by (with_reducible repeat (first | apply Kd.R_alloc | apply Kd.R_drewN | apply Kd.R_drew)); exact HO_158.out) gb363 (Nat.le_of_eq hg.symm)) hb); have n1_ := Aside0.mk (below_step (by repeat (first | (with_reducible first | exact HB.out | apply below_alloc | apply pw_below_drewN | apply below_drew1) | exact HB.out)) hb); have n2_ := Aside0.mk (hbox); have n3_ := Aside0.mk ((by rw [hg]; exact (below_size (by repeat (first | (with_reducible first | exact HB.out | apply below_alloc | apply pw_below_drewN | apply below_drew1) | exact HB.out))) : w.heap.size ≤ gb363)); have n4_ := Aside0.mk ((by rw [hg]; exact (below_size (by repeat (first | (with_reducible first | exact HB.out | apply below_alloc | apply pw_below_drewN | apply below_drew1) | exact HB.out))) : w.heap.size ≤ gb363)); clear HO_158; clear HB; have HO_158 := n0_; have HB := n1_; have BK363 := n2_; have GW363 := n3_; have GE363 := n4_; clear n0_ n1_ n2_ n3_ n4_; clear hb hbox hg; have hcz83_0 : w82.cell? ⟨gb363, 0, none⟩ = some (.int .i64 0) := (blk_cell BK363.out 0).trans rfl; have hcz83_1 : w82.cell? ⟨gb363, 1, none⟩ = some (.int .i64 0) := (blk_cell BK363.out 1).trans rfl; have hcz83_2 : w82.cell? ⟨gb363, 2, none⟩ = some (.bool false) := (blk_cell BK363.out 2).trans rfl; have hfz83_0 := blk_frozen BK363.out 0; have hfz83_1 := blk_frozen BK363.out 1; have hfz83_2 := blk_frozen BK363.out 2))
                                              go_roundg k5
                                              case measure => have := HJ8.out; have := HJ25.out; have := HJ41.out; have := HJ51.out; have := HK5.out; omega
                                              case rel => exact ⟨(false), (true), (wrap64 (x160_5 + 1)), (by first | rfl | (simp; done) | (simp [*]; done)), (by first | rfl | (simp; done) | (simp [*]; done)), (by first | rfl | (simp; done) | (simp [*]; done)), H', ⟨by have := HJ8.out; have := HJ25.out; have := HJ41.out; have := HJ51.out; have := HK5.out; omega⟩, ⟨by (with_reducible repeat (first | apply Kd.R_alloc | apply Kd.R_drewN | apply Kd.R_drew)); exact Kd.R_mono (Kd.R_far (p := ⟨gb363, 2, none⟩) (Kd.R_far (p := ⟨gb363, 1, none⟩) (Kd.R_far (p := ⟨gb363, 0, none⟩) (Kd.R_mono HO_158.out (fun k_ hk => (⟨hk, hk.2⟩ : _ ∧ k_ ≠ gb363))) (fun _ hk => hk.2) (.int .i64 ((rd_T35 t351 x160_5).f0))) (fun _ hk => hk.2) (.int .i64 ((rd_T35 t351 x160_5).f1))) (fun _ hk => hk.2) (.bool ((rd_T35 t351 x160_5).f2))) (fun _ hk => trivial)⟩, ⟨by repeat (first | (with_reducible first | exact HB.out | apply below_alloc | apply pw_below_drewN | apply below_drew1 | refine below_set ?_ GE363.out) | exact HB.out)⟩⟩
                                          · replace c81 := Bool.eq_false_iff.mpr c81
                                            subst c81
                                            have H1 : (if (rd_T35 t351 x160_5).f2 = true then (laws_FnServers.l1 k5 l1 t347 t360 t361 false (((rd_T35 t351 x160_5).f1) == 127) t351 (t351.length : Int) (wrap64 (x160_5 + 1))) else (laws_FnServers.l1 k5 l1 t347 t360 t361 false false t351 (t351.length : Int) (wrap64 (x160_5 + 1)))) = some r := by rw [if_neg (show ¬ (false = true) by decide)] at H; exact H
                                            clear H
                                            have H := H1
                                            clear H1
                                            obtain ⟨bq84, hbq84⟩ : ∃ b_ : Bool, b_ = ((rd_T35 t351 x160_5).f2) := ⟨_, rfl⟩
                                            replace H : (if bq84 = true then (laws_FnServers.l1 k5 l1 t347 t360 t361 false (((rd_T35 t351 x160_5).f1) == 127) t351 (t351.length : Int) (wrap64 (x160_5 + 1))) else (laws_FnServers.l1 k5 l1 t347 t360 t361 false false t351 (t351.length : Int) (wrap64 (x160_5 + 1)))) = some r := by rw [← hbq84] at H; exact H
                                            have Nbq84 := Aside0.mk hbq84
                                            clear hbq84
                                            by_cases c85 : bq84 = true
                                            · subst c85
                                              have H1 : (laws_FnServers.l1 k5 l1 t347 t360 t361 false (((rd_T35 t351 x160_5).f1) == 127) t351 (t351.length : Int) (wrap64 (x160_5 + 1))) = some r := by rw [if_pos rfl] at H; exact H
                                              clear H
                                              have H := H1
                                              clear H1
                                              as_aux_lemma =>
                                                have H' := Aside0.mk H
                                                clear H
                                                have p362 : 0 ≤ (x160_5 : Int) := of_decide_eq_true (by first | (with_reducible assumption) | assumption)
                                                have q362 : x160_5 < (t351.length : Int) := of_decide_eq_true (by first | (with_reducible assumption) | assumption)
                                                obtain ⟨ad362, e362, hx362_0, hx362_1, hx362_2⟩ := at_T35 (Kd.R_reads' HO_158.out).2.2 x160_5 p362 q362
                                                (try rw [← Nbq84.out] at hx362_2)
                                                (try rw [← Nbq84.out] at hw362_2)
                                                cases e362
                                                replace p362 := eq_true p362
                                                replace q362 := eq_true q362
                                                go_wp2_with (first | ((with_reducible refine gate_dst (N := 30) rfl ?_); (try (refine gate_guard (by rfl) ?_; dsimp only)); refine box_event ?hg (N := 30) ?hd (cs := #[.int .i64 0, .int .i64 0, .bool false]) (t := 35) ?hr ?_; (case hd => rfl); (case hg => rfl); (case hr => first | (go_simp; done) | (go_simp; rfl)); intro gb363 hg w86 hbox hb; have n0_ := Aside0.mk (Kd.R_below (Kd.R_elderB (by (with_reducible repeat (first | apply Kd.R_alloc | apply Kd.R_drewN | apply Kd.R_drew)); exact HO_158.out) gb363 (Nat.le_of_eq hg.symm)) hb); have n1_ := Aside0.mk (below_step (by repeat (first | (with_reducible first | exact HB.out | apply below_alloc | apply pw_below_drewN | apply below_drew1) | exact HB.out)) hb); have n2_ := Aside0.mk (hbox); have n3_ := Aside0.mk ((by rw [hg]; exact (below_size (by repeat (first | (with_reducible first | exact HB.out | apply below_alloc | apply pw_below_drewN | apply below_drew1) | exact HB.out))) : w.heap.size ≤ gb363)); have n4_ := Aside0.mk ((by rw [hg]; exact (below_size (by repeat (first | (with_reducible first | exact HB.out | apply below_alloc | apply pw_below_drewN | apply below_drew1) | exact HB.out))) : w.heap.size ≤ gb363)); clear HO_158; clear HB; have HO_158 := n0_; have HB := n1_; have BK363 := n2_; have GW363 := n3_; have GE363 := n4_; clear n0_ n1_ n2_ n3_ n4_; clear hb hbox hg; have hcz87_0 : w86.cell? ⟨gb363, 0, none⟩ = some (.int .i64 0) := (blk_cell BK363.out 0).trans rfl; have hcz87_1 : w86.cell? ⟨gb363, 1, none⟩ = some (.int .i64 0) := (blk_cell BK363.out 1).trans rfl; have hcz87_2 : w86.cell? ⟨gb363, 2, none⟩ = some (.bool false) := (blk_cell BK363.out 2).trans rfl; have hfz87_0 := blk_frozen BK363.out 0; have hfz87_1 := blk_frozen BK363.out 1; have hfz87_2 := blk_frozen BK363.out 2))
                                                go_roundg k5
                                                case measure => have := HJ8.out; have := HJ25.out; have := HJ41.out; have := HJ51.out; have := HK5.out; omega
                                                case rel => exact ⟨(false), ((((rd_T35 t351 x160_5).f1) == 127)), (wrap64 (x160_5 + 1)), (by first | rfl | (simp; done) | (simp [*]; done)), (by first | rfl | (simp; done) | (simp [*]; done)), (by first | rfl | (simp; done) | (simp [*]; done)), H', ⟨by have := HJ8.out; have := HJ25.out; have := HJ41.out; have := HJ51.out; have := HK5.out; omega⟩, ⟨by (with_reducible repeat (first | apply Kd.R_alloc | apply Kd.R_drewN | apply Kd.R_drew)); exact Kd.R_mono (Kd.R_far (p := ⟨gb363, 2, none⟩) (Kd.R_far (p := ⟨gb363, 1, none⟩) (Kd.R_far (p := ⟨gb363, 0, none⟩) (Kd.R_mono HO_158.out (fun k_ hk => (⟨hk, hk.2⟩ : _ ∧ k_ ≠ gb363))) (fun _ hk => hk.2) (.int .i64 ((rd_T35 t351 x160_5).f0))) (fun _ hk => hk.2) (.int .i64 ((rd_T35 t351 x160_5).f1))) (fun _ hk => hk.2) (.bool true)) (fun _ hk => trivial)⟩, ⟨by repeat (first | (with_reducible first | exact HB.out | apply below_alloc | apply pw_below_drewN | apply below_drew1 | refine below_set ?_ GE363.out) | exact HB.out)⟩⟩
                                            · replace c85 := Bool.eq_false_iff.mpr c85
                                              subst c85
                                              have H1 : (laws_FnServers.l1 k5 l1 t347 t360 t361 false false t351 (t351.length : Int) (wrap64 (x160_5 + 1))) = some r := by rw [if_neg (show ¬ (false = true) by decide)] at H; exact H
                                              clear H
                                              have H := H1
                                              clear H1
                                              as_aux_lemma =>
                                                have H' := Aside0.mk H
                                                clear H
                                                have p362 : 0 ≤ (x160_5 : Int) := of_decide_eq_true (by first | (with_reducible assumption) | assumption)
                                                have q362 : x160_5 < (t351.length : Int) := of_decide_eq_true (by first | (with_reducible assumption) | assumption)
                                                obtain ⟨ad362, e362, hx362_0, hx362_1, hx362_2⟩ := at_T35 (Kd.R_reads' HO_158.out).2.2 x160_5 p362 q362
                                                (try rw [← Nbq84.out] at hx362_2)
                                                (try rw [← Nbq84.out] at hw362_2)
                                                cases e362
                                                replace p362 := eq_true p362
                                                replace q362 := eq_true q362
                                                go_wp2_with (first | ((with_reducible refine gate_dst (N := 30) rfl ?_); (try (refine gate_guard (by rfl) ?_; dsimp only)); refine box_event ?hg (N := 30) ?hd (cs := #[.int .i64 0, .int .i64 0, .bool false]) (t := 35) ?hr ?_; (case hd => rfl); (case hg => rfl); (case hr => first | (go_simp; done) | (go_simp; rfl)); intro gb363 hg w88 hbox hb; have n0_ := Aside0.mk (Kd.R_below (Kd.R_elderB (by (with_reducible repeat (first | apply Kd.R_alloc | apply Kd.R_drewN | apply Kd.R_drew)); exact HO_158.out) gb363 (Nat.le_of_eq hg.symm)) hb); have n1_ := Aside0.mk (below_step (by repeat (first | (with_reducible first | exact HB.out | apply below_alloc | apply pw_below_drewN | apply below_drew1) | exact HB.out)) hb); have n2_ := Aside0.mk (hbox); have n3_ := Aside0.mk ((by rw [hg]; exact (below_size (by repeat (first | (with_reducible first | exact HB.out | apply below_alloc | apply pw_below_drewN | apply below_drew1) | exact HB.out))) : w.heap.size ≤ gb363)); have n4_ := Aside0.mk ((by rw [hg]; exact (below_size (by repeat (first | (with_reducible first | exact HB.out | apply below_alloc | apply pw_below_drewN | apply below_drew1) | exact HB.out))) : w.heap.size ≤ gb363)); clear HO_158; clear HB; have HO_158 := n0_; have HB := n1_; have BK363 := n2_; have GW363 := n3_; have GE363 := n4_; clear n0_ n1_ n2_ n3_ n4_; clear hb hbox hg; have hcz89_0 : w88.cell? ⟨gb363, 0, none⟩ = some (.int .i64 0) := (blk_cell BK363.out 0).trans rfl; have hcz89_1 : w88.cell? ⟨gb363, 1, none⟩ = some (.int .i64 0) := (blk_cell BK363.out 1).trans rfl; have hcz89_2 : w88.cell? ⟨gb363, 2, none⟩ = some (.bool false) := (blk_cell BK363.out 2).trans rfl; have hfz89_0 := blk_frozen BK363.out 0; have hfz89_1 := blk_frozen BK363.out 1; have hfz89_2 := blk_frozen BK363.out 2))
                                                go_roundg k5
                                                case measure => have := HJ8.out; have := HJ25.out; have := HJ41.out; have := HJ51.out; have := HK5.out; omega
                                                case rel => exact ⟨(false), (false), (wrap64 (x160_5 + 1)), (by first | rfl | (simp; done) | (simp [*]; done)), (by first | rfl | (simp; done) | (simp [*]; done)), (by first | rfl | (simp; done) | (simp [*]; done)), H', ⟨by have := HJ8.out; have := HJ25.out; have := HJ41.out; have := HJ51.out; have := HK5.out; omega⟩, ⟨by (with_reducible repeat (first | apply Kd.R_alloc | apply Kd.R_drewN | apply Kd.R_drew)); exact Kd.R_mono (Kd.R_far (p := ⟨gb363, 2, none⟩) (Kd.R_far (p := ⟨gb363, 1, none⟩) (Kd.R_far (p := ⟨gb363, 0, none⟩) (Kd.R_mono HO_158.out (fun k_ hk => (⟨hk, hk.2⟩ : _ ∧ k_ ≠ gb363))) (fun _ hk => hk.2) (.int .i64 ((rd_T35 t351 x160_5).f0))) (fun _ hk => hk.2) (.int .i64 ((rd_T35 t351 x160_5).f1))) (fun _ hk => hk.2) (.bool false)) (fun _ hk => trivial)⟩, ⟨by repeat (first | (with_reducible first | exact HB.out | apply below_alloc | apply pw_below_drewN | apply below_drew1 | refine below_set ?_ GE363.out) | exact HB.out)⟩⟩
                                    · rw [if_neg c61] at H
                                      exact absurd H (by simp)
                                  · rw [if_neg c60] at H
                                    exact absurd H (by simp)
                                · rw [if_neg c59] at H
                                  have c59b0 : decide (x160_5 < (t351.length : Int)) = false := decide_eq_false c59
                                  clear c59
                                  (first | rw [c59b0] | (simp only [i64_w, i32_w]; rw [c59b0]) | skip)
                                  have HC90 := Aside0.mk H
                                  clear H
                                  go_upto_region 34 with (fail)
                                  go_cut [205] (fun v205 wc => ∃ (kq : Nat) (x205_89 : Bool), v205 = .bool x205_89 ∧ Aside0 (laws_FnServers.j7 kq l1 x205_89 = some r) ∧ Aside0 (kq ≤ k5) ∧ Aside0 (Below w.heap.size w wc))
                                  case first =>
                                    have H := HC90.out
                                    clear HC90
                                    by_cases c91 : x27_5 = true
                                    · subst c91
                                      have H1 : (if x28_5 = true then (laws_FnServers.j7 k5 l1 false) else (if t361 = true then (laws_FnServers.j7 k5 l1 (t360 != t347)) else (none))) = some r := by rw [if_pos rfl] at H; exact H
                                      clear H
                                      have H := H1
                                      clear H1
                                      by_cases c92 : x28_5 = true
                                      · subst c92
                                        have H1 : (laws_FnServers.j7 k5 l1 false) = some r := by rw [if_pos rfl] at H; exact H
                                        clear H
                                        have H := H1
                                        clear H1
                                        as_aux_lemma =>
                                          have H' := Aside0.mk H
                                          clear H
                                          go_wp2
                                          go_meet
                                          case rel => exact ⟨_, (false), (by first | rfl | (simp; done) | (simp [*]; done)), H', ⟨by have := HJ8.out; have := HJ25.out; have := HJ41.out; have := HJ51.out; have := HK5.out; first | omega | exact Nat.le_refl _⟩, ⟨by repeat (first | (with_reducible first | exact HB.out | apply below_alloc | apply pw_below_drewN | apply below_drew1) | exact HB.out)⟩⟩
                                      · replace c92 := Bool.eq_false_iff.mpr c92
                                        subst c92
                                        have H1 : (if t361 = true then (laws_FnServers.j7 k5 l1 (t360 != t347)) else (none)) = some r := by rw [if_neg (show ¬ (false = true) by decide)] at H; exact H
                                        clear H
                                        have H := H1
                                        clear H1
                                        by_cases c93 : t361 = true
                                        · subst c93
                                          have H1 : (laws_FnServers.j7 k5 l1 (t360 != t347)) = some r := by rw [if_pos rfl] at H; exact H
                                          clear H
                                          have H := H1
                                          clear H1
                                          as_aux_lemma =>
                                            have H' := Aside0.mk H
                                            clear H
                                            go_wp2
                                            go_meet
                                            case rel => exact ⟨_, ((t360 != t347)), (by first | rfl | (simp; done) | (simp [*]; done)), H', ⟨by have := HJ8.out; have := HJ25.out; have := HJ41.out; have := HJ51.out; have := HK5.out; first | omega | exact Nat.le_refl _⟩, ⟨by repeat (first | (with_reducible first | exact HB.out | apply below_alloc | apply pw_below_drewN | apply below_drew1) | exact HB.out)⟩⟩
                                        · replace c93 := Bool.eq_false_iff.mpr c93
                                          subst c93
                                          have H1 : (none) = some r := by rw [if_neg (show ¬ (false = true) by decide)] at H; exact H
                                          clear H
                                          have H := H1
                                          clear H1
                                          exact absurd H (by simp)
                                    · replace c91 := Bool.eq_false_iff.mpr c91
                                      subst c91
                                      have H1 : (laws_FnServers.j7 k5 l1 false) = some r := by rw [if_neg (show ¬ (false = true) by decide)] at H; exact H
                                      clear H
                                      have H := H1
                                      clear H1
                                      as_aux_lemma =>
                                        have H' := Aside0.mk H
                                        clear H
                                        go_wp2
                                        go_meet
                                        case rel => exact ⟨_, (false), (by first | rfl | (simp; done) | (simp [*]; done)), H', ⟨by have := HJ8.out; have := HJ25.out; have := HJ41.out; have := HJ51.out; have := HK5.out; first | omega | exact Nat.le_refl _⟩, ⟨by repeat (first | (with_reducible first | exact HB.out | apply below_alloc | apply pw_below_drewN | apply below_drew1) | exact HB.out)⟩⟩
                                  case rest =>
                                    clear HC90
                                    try clear c1
                                    try clear c2
                                    try clear p2
                                    try clear c3
                                    try clear c3b0
                                    try clear p3
                                    try clear q3
                                    try clear hx3
                                    try clear c4
                                    try clear c5
                                    try clear c6
                                    try clear p6
                                    try clear q6
                                    try clear c7
                                    try clear c8
                                    try clear q8
                                    try clear c9
                                    try clear c10
                                    try clear c16
                                    try clear c16b0
                                    try clear c16b1
                                    try clear c16b2
                                    try clear c18
                                    try clear c19
                                    try clear c19b0
                                    try clear c19b1
                                    try clear c19b2
                                    try clear c20
                                    try clear c21
                                    try clear c22
                                    try clear c23
                                    try clear c24
                                    try clear c25
                                    try clear c26
                                    try clear c27
                                    try clear c29
                                    try clear c31
                                    try clear c33
                                    try clear c33b0
                                    try clear c34
                                    try clear c34b0
                                    try clear p34
                                    try clear q34
                                    try clear hx34
                                    try clear c35
                                    try clear c35b0
                                    try clear p36
                                    try clear q36
                                    try clear hx36
                                    try clear c37
                                    try clear c37b0
                                    try clear c37b1
                                    try clear c37b2
                                    try clear c47
                                    try clear c47b0
                                    try clear c47b1
                                    try clear c47b2
                                    try clear c51
                                    try clear c53
                                    try clear c55
                                    try clear c59
                                    try clear c59b0
                                    try clear c60
                                    try clear c60b0
                                    try clear c61
                                    try clear c61b0
                                    try clear c62
                                    try clear c63
                                    try clear p64
                                    try clear c66
                                    try clear c66b0
                                    try clear c66b1
                                    try clear q69
                                    try clear c70
                                    try clear c75
                                    try clear c75b0
                                    try clear c75b1
                                    try clear c76
                                    try clear c81
                                    try clear q84
                                    try clear c85
                                    try clear c91
                                    try clear c92
                                    try clear c93
                                    try clear hcz65_0
                                    try clear hcz65_1
                                    try clear hcz65_2
                                    try clear hcz68_0
                                    try clear hcz68_1
                                    try clear hcz68_2
                                    try clear hcz72_0
                                    try clear hcz72_1
                                    try clear hcz72_2
                                    try clear hcz74_0
                                    try clear hcz74_1
                                    try clear hcz74_2
                                    try clear hcz78_0
                                    try clear hcz78_1
                                    try clear hcz78_2
                                    try clear hcz80_0
                                    try clear hcz80_1
                                    try clear hcz80_2
                                    try clear hcz83_0
                                    try clear hcz83_1
                                    try clear hcz83_2
                                    try clear hcz87_0
                                    try clear hcz87_1
                                    try clear hcz87_2
                                    try clear hcz89_0
                                    try clear hcz89_1
                                    try clear hcz89_2
                                    try clear hfz65_0
                                    try clear hfz65_1
                                    try clear hfz65_2
                                    try clear hfz68_0
                                    try clear hfz68_1
                                    try clear hfz68_2
                                    try clear hfz72_0
                                    try clear hfz72_1
                                    try clear hfz72_2
                                    try clear hfz74_0
                                    try clear hfz74_1
                                    try clear hfz74_2
                                    try clear hfz78_0
                                    try clear hfz78_1
                                    try clear hfz78_2
                                    try clear hfz80_0
                                    try clear hfz80_1
                                    try clear hfz80_2
                                    try clear hfz83_0
                                    try clear hfz83_1
                                    try clear hfz83_2
                                    try clear hfz87_0
                                    try clear hfz87_1
                                    try clear hfz87_2
                                    try clear hfz89_0
                                    try clear hfz89_1
                                    try clear hfz89_2
                                    try clear hx344_0
                                    try clear hx362_0
                                    try clear hx362_1
                                    try clear hx362_2
                                    try clear p2
                                    try clear p3
                                    try clear p34
                                    try clear p344
                                    try clear p362
                                    try clear p6
                                    try clear q3
                                    try clear q34
                                    try clear q344
                                    try clear q362
                                    obtain ⟨kq, x205_89, rfl, HA, HJ89, HB⟩ := hcut
                                    cases kq with
                                    | zero => exact absurd HA.out (by simp [laws_FnServers.j7])
                                    | succ kj89 =>
                                      have H := HA.out
                                      clear HA
                                      simp only [laws_FnServers.j7] at H
                                      by_cases c94 : x205_89 = true
                                      · subst c94
                                        have H1 : (none) = some r := by rw [if_pos rfl] at H; exact H
                                        clear H
                                        have H := H1
                                        clear H1
                                        exact absurd H (by simp)
                                      · replace c94 := Bool.eq_false_iff.mpr c94
                                        subst c94
                                        have H1 : (laws_FnServers.j8 kj89 l1) = some r := by rw [if_neg (show ¬ (false = true) by decide)] at H; exact H
                                        clear H
                                        have H := H1
                                        clear H1
                                        as_aux_lemma =>
                                          have H' := Aside0.mk H
                                          clear H
                                          go_wp2
                                          go_meet
                                          case rel => exact ⟨_, H', ⟨by have := HJ8.out; have := HJ25.out; have := HJ41.out; have := HJ51.out; have := HK5.out; have := HJ89.out; first | omega | exact Nat.le_refl _⟩, ⟨by repeat (first | (with_reducible first | exact HB.out | apply below_alloc | apply pw_below_drewN | apply below_drew1) | exact HB.out)⟩⟩
                          · replace c55 := Bool.eq_false_iff.mpr c55
                            subst c55
                            have H1 : (laws_FnServers.j8 kj51 l1) = some r := by rw [if_neg (show ¬ (false = true) by decide)] at H; exact H
                            clear H
                            have H := H1
                            clear H1
                            as_aux_lemma =>
                              have H' := Aside0.mk H
                              clear H
                              go_wp2
                              go_meet
                              case rel => exact ⟨_, H', ⟨by have := HJ8.out; have := HJ25.out; have := HJ41.out; have := HJ51.out; first | omega | exact Nat.le_refl _⟩, ⟨by repeat (first | (with_reducible first | exact HB.out | apply below_alloc | apply pw_below_drewN | apply below_drew1) | exact HB.out)⟩⟩
                        case rest =>
                          clear HC54
                          try clear c1
                          try clear c2
                          try clear p2
                          try clear c3
                          try clear c3b0
                          try clear p3
                          try clear q3
                          try clear hx3
                          try clear c4
                          try clear c5
                          try clear c6
                          try clear p6
                          try clear q6
                          try clear c7
                          try clear c8
                          try clear q8
                          try clear c9
                          try clear c10
                          try clear c16
                          try clear c16b0
                          try clear c16b1
                          try clear c16b2
                          try clear c18
                          try clear c19
                          try clear c19b0
                          try clear c19b1
                          try clear c19b2
                          try clear c20
                          try clear c21
                          try clear c22
                          try clear c23
                          try clear c24
                          try clear c25
                          try clear c26
                          try clear c27
                          try clear c29
                          try clear c31
                          try clear c33
                          try clear c33b0
                          try clear c34
                          try clear c34b0
                          try clear p34
                          try clear q34
                          try clear hx34
                          try clear c35
                          try clear c35b0
                          try clear p36
                          try clear q36
                          try clear hx36
                          try clear c37
                          try clear c37b0
                          try clear c37b1
                          try clear c37b2
                          try clear c47
                          try clear c47b0
                          try clear c47b1
                          try clear c47b2
                          try clear c51
                          try clear c53
                          try clear c55
                          try clear c59
                          try clear c59b0
                          try clear c60
                          try clear c60b0
                          try clear c61
                          try clear c61b0
                          try clear c62
                          try clear c63
                          try clear p64
                          try clear c66
                          try clear c66b0
                          try clear c66b1
                          try clear q69
                          try clear c70
                          try clear c75
                          try clear c75b0
                          try clear c75b1
                          try clear c76
                          try clear c81
                          try clear q84
                          try clear c85
                          try clear c91
                          try clear c92
                          try clear c93
                          try clear c94
                          try clear hcz65_0
                          try clear hcz65_1
                          try clear hcz65_2
                          try clear hcz68_0
                          try clear hcz68_1
                          try clear hcz68_2
                          try clear hcz72_0
                          try clear hcz72_1
                          try clear hcz72_2
                          try clear hcz74_0
                          try clear hcz74_1
                          try clear hcz74_2
                          try clear hcz78_0
                          try clear hcz78_1
                          try clear hcz78_2
                          try clear hcz80_0
                          try clear hcz80_1
                          try clear hcz80_2
                          try clear hcz83_0
                          try clear hcz83_1
                          try clear hcz83_2
                          try clear hcz87_0
                          try clear hcz87_1
                          try clear hcz87_2
                          try clear hcz89_0
                          try clear hcz89_1
                          try clear hcz89_2
                          try clear hfz65_0
                          try clear hfz65_1
                          try clear hfz65_2
                          try clear hfz68_0
                          try clear hfz68_1
                          try clear hfz68_2
                          try clear hfz72_0
                          try clear hfz72_1
                          try clear hfz72_2
                          try clear hfz74_0
                          try clear hfz74_1
                          try clear hfz74_2
                          try clear hfz78_0
                          try clear hfz78_1
                          try clear hfz78_2
                          try clear hfz80_0
                          try clear hfz80_1
                          try clear hfz80_2
                          try clear hfz83_0
                          try clear hfz83_1
                          try clear hfz83_2
                          try clear hfz87_0
                          try clear hfz87_1
                          try clear hfz87_2
                          try clear hfz89_0
                          try clear hfz89_1
                          try clear hfz89_2
                          try clear hx344_0
                          try clear hx362_0
                          try clear hx362_1
                          try clear hx362_2
                          try clear p2
                          try clear p3
                          try clear p34
                          try clear p344
                          try clear p36
                          try clear p362
                          try clear p6
                          try clear p64
                          try clear q3
                          try clear q34
                          try clear q344
                          try clear q36
                          try clear q362
                          try clear q6
                          try clear q69
                          try clear q8
                          try clear q84
                          obtain ⟨kq, HA, HJ53, HB⟩ := hcut
                          cases kq with
                          | zero => exact absurd HA.out (by simp [laws_FnServers.j8])
                          | succ kj53 =>
                            have H := HA.out
                            clear HA
                            simp only [laws_FnServers.j8] at H
                            replace H := Option.bind_eq_some_iff.mp H
                            obtain ⟨⟨t364, t365⟩, A950, H⟩ := H
                            replace H : ((impl_ServersOf.f kj53 t364 t365).bind fun bt368 => ((spec_ServersOf.f kj53 t364 t365).bind fun bt372 => (if (bt368.2 == bt372.2) = true then ((laws_sameInts.f kj53 bt368.1 bt372.1).bind fun t376 => (some t376)) else (none)))) = some r := H
                            have A95 := Aside0.mk A950
                            clear A950
                            replace H := Option.bind_eq_some_iff.mp H
                            obtain ⟨⟨t368, t369⟩, A960, H⟩ := H
                            replace H : ((spec_ServersOf.f kj53 t364 t365).bind fun bt372 => (if (t369 == bt372.2) = true then ((laws_sameInts.f kj53 t368 bt372.1).bind fun t376 => (some t376)) else (none))) = some r := H
                            have A96 := Aside0.mk A960
                            clear A960
                            replace H := Option.bind_eq_some_iff.mp H
                            obtain ⟨⟨t372, t373⟩, A970, H⟩ := H
                            replace H : (if (t369 == t373) = true then ((laws_sameInts.f kj53 t368 t372).bind fun t376 => (some t376)) else (none)) = some r := H
                            have A97 := Aside0.mk A970
                            clear A970
                            by_cases c98 : (t369 == t373) = true
                            · rw [if_pos c98] at H
                              have c98b0 : (t369 == t373) = true := c98
                              (try (have c98b1 : decide (t369 = t373) = true := by simpa using c98))
                              (try (have c98b2 : (t369 == t373) = true := by simpa using c98))
                              clear c98
                              replace H := Option.bind_eq_some_iff.mp H
                              obtain ⟨t376, A990, H⟩ := H
                              replace H : (some t376) = some r := H
                              have A99 := Aside0.mk A990
                              clear A990
                              as_aux_lemma =>
                                obtain rfl := Option.some.inj H
                                go_wp2_with (first | ((with_reducible refine gate_callee (f := 28) rfl ?_); refine goesL_ (some 208) rfl rfl Try.func28 (by kernel_rfl) rfl #[.slice A1 l1.length c1] rfl (by (try simp only [List.map_toArray, List.map_cons, List.map_nil]); first | done | rfl | (simp only [List.length_drop, List.length_take]; rfl)) ?_; (with_reducible refine (spec_DrawServersOf.calls kj53 _ _ l1 t364 t365 _ ?side1 ?side2 A95.out).mono ?_); (case side1 => repeat (first | exact (Kd.C_below HR1.out HB.out) | (with_reducible refine Kd.C_alloc ?_ _) | (with_reducible refine Kd.C_drewN ?_ _) | (with_reducible refine Kd.C_drew ?_))); (case side2 => exact HC1.out); rintro e w100 ⟨v366, rfl, ho0, hb⟩; refine ⟨_, rfl, ?_⟩; have n0_ := Aside0.mk (Kd.R_lower ho0 (below_size (by repeat (first | (with_reducible first | exact HB.out | apply below_alloc | apply pw_below_drewN | apply below_drew1) | exact HB.out)))); have n1_ := Aside0.mk (below_step (by repeat (first | (with_reducible first | exact HB.out | apply below_alloc | apply pw_below_drewN | apply below_drew1) | exact HB.out)) hb); clear HB; have HO367 := n0_; have HB := n1_; clear n0_ n1_; (try clear hb); (try clear hb2); (try clear hk); (try clear hi); (try clear ho0); obtain ⟨Ao101, co101, eo101⟩ := Kd.R_slice HO367.out; subst eo101) | ((with_reducible refine gate_callee (f := 21) rfl ?_); refine goesL_ (some 214) rfl rfl Try.func21 (by kernel_rfl) rfl #[.slice Ao101 t364.length co101, .int .i64 t365] rfl (by (try simp only [List.map_toArray, List.map_cons, List.map_nil]); first | done | rfl | (simp only [List.length_drop, List.length_take]; rfl)) ?_; (with_reducible refine (impl_ServersOf.calls kj53 _ _ t364 t365 t368 t369 _ ?side1 ?side2 A96.out).mono ?_); (case side1 => repeat (first | exact (Kd.R_reads' HO367.out).2.2 | (with_reducible refine Kd.C_alloc ?_ _) | (with_reducible refine Kd.C_drewN ?_ _) | (with_reducible refine Kd.C_drew ?_))); (case side2 => exact (Kd.R_reads' HO367.out).2.1); rintro e w102 ⟨v370, rfl, ho0, hb⟩; refine ⟨_, rfl, ?_⟩; have n0_ := Aside0.mk (Kd.R_below (by (with_reducible repeat (first | apply Kd.R_alloc | apply Kd.R_drewN | apply Kd.R_drew)); exact HO367.out) hb); have n1_ := Aside0.mk (Kd.R_lower ho0 (below_size (by repeat (first | (with_reducible first | exact HB.out | apply below_alloc | apply pw_below_drewN | apply below_drew1) | exact HB.out)))); have n2_ := Aside0.mk (below_step (by repeat (first | (with_reducible first | exact HB.out | apply below_alloc | apply pw_below_drewN | apply below_drew1) | exact HB.out)) hb); clear HO367; clear HB; have HO367 := n0_; have HO371 := n1_; have HB := n2_; clear n0_ n1_ n2_; (try clear hb); (try clear hb2); (try clear hk); (try clear hi); (try clear ho0)) | ((with_reducible refine gate_callee (f := 22) rfl ?_); refine goesL_ (some 220) rfl rfl Try.func22 (by kernel_rfl) rfl #[.slice Ao101 t364.length co101, .int .i64 t365] rfl (by (try simp only [List.map_toArray, List.map_cons, List.map_nil]); first | done | rfl | (simp only [List.length_drop, List.length_take]; rfl)) ?_; (with_reducible refine (spec_ServersOf.calls kj53 _ _ t364 t365 t372 t373 _ ?side1 ?side2 A97.out).mono ?_); (case side1 => repeat (first | exact (Kd.R_reads' HO367.out).2.2 | (with_reducible refine Kd.C_alloc ?_ _) | (with_reducible refine Kd.C_drewN ?_ _) | (with_reducible refine Kd.C_drew ?_))); (case side2 => exact (Kd.R_reads' HO367.out).2.1); rintro e w103 ⟨v374, rfl, ho0, hb⟩; refine ⟨_, rfl, ?_⟩; have n0_ := Aside0.mk (Kd.R_below (by (with_reducible repeat (first | apply Kd.R_alloc | apply Kd.R_drewN | apply Kd.R_drew)); exact HO367.out) hb); have n1_ := Aside0.mk (Kd.R_elder' (by (with_reducible repeat (first | apply Kd.R_alloc | apply Kd.R_drewN | apply Kd.R_drew)); exact HO371.out) (Kd.R_base ho0) hb); have n2_ := Aside0.mk (Kd.R_lower (Kd.R_new' ho0 (Kd.R_lt (by (with_reducible repeat (first | apply Kd.R_alloc | apply Kd.R_drewN | apply Kd.R_drew)); exact HO371.out))) (below_size (by repeat (first | (with_reducible first | exact HB.out | apply below_alloc | apply pw_below_drewN | apply below_drew1) | exact HB.out)))); have n3_ := Aside0.mk (below_step (by repeat (first | (with_reducible first | exact HB.out | apply below_alloc | apply pw_below_drewN | apply below_drew1) | exact HB.out)) hb); clear HO367; clear HO371; clear HB; have HO367 := n0_; have HO371 := n1_; have HO375 := n2_; have HB := n3_; clear n0_ n1_ n2_ n3_; (try clear hb); (try clear hb2); (try clear hk); (try clear hi); (try clear ho0); obtain ⟨Ao104, co104, eo104⟩ := Kd.R_slice HO371.out; subst eo104; obtain ⟨Ao105, co105, eo105⟩ := Kd.R_slice HO375.out; subst eo105) | (go_at_call 12; (with_reducible refine (laws_sameInts.calls kj53 _ _ t368 _ _ t372 t376 _ ?side1 ?side2 ?side3 ?side4 A99.out).mono ?_); (case side1 => repeat (first | exact (Kd.R_reads' HO371.out).2.2 | (with_reducible refine Kd.C_alloc ?_ _) | (with_reducible refine Kd.C_drewN ?_ _) | (with_reducible refine Kd.C_drew ?_))); (case side2 => exact (Kd.R_reads' HO371.out).2.1); (case side3 => repeat (first | exact (Kd.R_reads' HO375.out).2.2 | (with_reducible refine Kd.C_alloc ?_ _) | (with_reducible refine Kd.C_drewN ?_ _) | (with_reducible refine Kd.C_drew ?_))); (case side4 => exact (Kd.R_reads' HO375.out).2.1); rintro e w' ⟨rfl, ⟨nd, rfl⟩⟩))
                                go_ret
                                exact ⟨by first | rfl | (simp [errW_none, errW_some] <;> rfl) | (simp [*, errW_none, errW_some] <;> rfl), by repeat (first | (with_reducible first | exact HB.out | apply below_alloc | apply pw_below_drewN | apply below_drew1) | exact HB.out)⟩
                            · rw [if_neg c98] at H
                              exact absurd H (by simp)

/-- THE ONE PURE STATEMENT of laws_FnServers: yours. -/
def laws_FnServers.Pure : Prop := ∀ (l0 : List Int) (l1 : List Int), l0.length ≤ maxLen → l0.length * 1 ≤ 140737488351232 → (∀ x ∈ l0, (Lit.int .u8 x).wf = true) → l1.length ≤ maxLen → l1.length * 1 ≤ 140737488351232 → (∀ x ∈ l1, (Lit.int .u8 x).wf = true) → ∃ k, laws_FnServers.f k l0 l1 = some true
theorem laws_FnServers.walk (P : laws_FnServers.Pure) (a0 : Option Addr) (len0 cap0 : Nat) (z0 : List Int) (a1 : Option Addr) (len1 cap1 : Nat) (z1 : List Int) (w : World) (w0 : (a0 = none ∧ len0 = 0 ∧ cap0 = 0 ∧ z0 = []) ∨ ∃ x, a0 = some x ∧ len0 ≤ cap0 ∧ cap0 ≤ maxLen ∧ z0.length = cap0 ∧ (∀ i, i < z0.length → w.cell? (x.add i) = some (.int .u8 (z0.getD i 0))) ∧ ∀ n ∈ z0, (Lit.int .u8 n).wf = true) (y0 : len0 * 1 ≤ 140737488351232) (w1 : (a1 = none ∧ len1 = 0 ∧ cap1 = 0 ∧ z1 = []) ∨ ∃ x, a1 = some x ∧ len1 ≤ cap1 ∧ cap1 ≤ maxLen ∧ z1.length = cap1 ∧ (∀ i, i < z1.length → w.cell? (x.add i) = some (.int .u8 (z1.getD i 0))) ∧ ∀ n ∈ z1, (Lit.int .u8 n).wf = true) (y1 : len1 * 1 ≤ 140737488351232) :
    Calls Try.prog 4 #[.slice a0 len0 cap0, .slice a1 len1 cap1] w fun e w' => e = .returned (.bool true) ∧ Below w.heap.size w w' := by
  obtain ⟨l0, rfl, hr0, hm0, hw0, hc0⟩ := ReadsInt.ofRowC w0
  obtain ⟨l1, rfl, hr1, hm1, hw1, hc1⟩ := ReadsInt.ofRowC w1
  obtain ⟨k, h⟩ := P l0 l1 hm0 y0 hw0 hm1 y1 hw1
  refine (laws_FnServers.calls k _ _ l0 _ _ l1 true w (Kd.C_of_reads (d := (0 : Int)) (h1 := fun _ => rfl) hr0) hc0 (Kd.C_of_reads (d := (0 : Int)) (h1 := fun _ => rfl) hr1) hc1 h).mono ?_
  rintro e w' ⟨rfl, hd⟩
  exact ⟨rfl, hd⟩

end Go.Proofs.Ytgcondmgpcaahaa.PFnServers
