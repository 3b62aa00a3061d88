-- Written by a program of this project (myprint.py, by way of the kit's printer). Not trusted: Lean checks it.
import Derived.Test.YtaihdogejmdjnaaPFnNewerx0
import Derived.Test.YtaihdogejmdjnaaPFnNewerx1
import Derived.Test.YtaihdogejmdjnaaPFnNewerx2
import Derived.Test.YtaihdogejmdjnaaPFnNewerx3
import Derived.Test.YtaihdogejmdjnaaPFnNewerx4
namespace Go.Proofs.Ytaihdogejmdjnaa.PFnNewer
open Go.RowKit Go.Proofs.YtaihdogejmdjnaaW.PrintWords Go.Proofs.YtaihdogejmdjnaaW.PrintLast Go.Proofs.YtaihdogejmdjnaaW.PrintMore
attribute [local go_sem] max2_int min2_int max_two min_two max_three min_three max_four min_four   -- for this text's walks alone
set_option linter.unusedVariables false
set_option linter.unusedSimpArgs false

/-! ### laws_FnNewer: function 11 -/
mutual
def laws_FnNewer.j0 : Nat → List Int → List Int → Int → Int → Bool → Bool → Int → Bool → Int → Bool → Bool → Option (Bool)
  | 0, _, _, _, _, _, _, _, _, _, _, _ => none
  | k + 1, x0, x1, x5, x6, x7, x8, x11, x12, x15, x16, x108 => if x108 = true then (none) else (if x8 = true then ((impl_IsNewer.f x6 x5).bind fun bt219 => ((impl_StepsTo.f x6 x5).bind fun bt221 => ((impl_IsNewer.f x15 x5).bind fun bt223 => (if x12 = true then (if x16 = true then (if bt219.2 = true then (if x7 = true then (if bt219.1 = true then (none) else (if x5 = x6 then (if (false != true) = true then (none) else (if bt221.2 = true then (if (Int.tmod (wrap64 (x11 + bt221.1)) 64) = 0 then (if bt223.2 = true then (laws_FnNewer.j1 k x0 x1 (!bt223.1)) else (none)) else (none)) else (none))) else (if (false != (x11 == 32)) = true then (none) else (if bt221.2 = true then (if (Int.tmod (wrap64 (x11 + bt221.1)) 64) = 0 then (if bt223.2 = true then (laws_FnNewer.j1 k x0 x1 (!bt223.1)) else (none)) else (none)) else (none))))) else (if x5 = x6 then (if ((!bt219.1) != true) = true then (none) else (if bt221.2 = true then (if (Int.tmod (wrap64 (x11 + bt221.1)) 64) = 0 then (if bt223.2 = true then (laws_FnNewer.j1 k x0 x1 (!bt223.1)) else (none)) else (none)) else (none))) else (if ((!bt219.1) != (x11 == 32)) = true then (none) else (if bt221.2 = true then (if (Int.tmod (wrap64 (x11 + bt221.1)) 64) = 0 then (if bt223.2 = true then (laws_FnNewer.j1 k x0 x1 (!bt223.1)) else (none)) else (none)) else (none))))) else (none)) else (none)) else (none))))) else (laws_FnNewer.j2 k x0 x1))
def laws_FnNewer.j2 : Nat → List Int → List Int → Option (Bool)
  | 0, _, _ => none
  | k + 1, x0, x1 => (spec_DrawFitsRing.f k x1).bind fun t225 => ((impl_FitsRing.f k t225).bind fun bt228 => ((spec_FitsRing.f k t225).bind fun bt230 => (if (bt228.2 != bt230.2) = true then (none) else (laws_FnNewer.j3 k x0 t225 (bt228.1 != bt230.1)))))
def laws_FnNewer.j3 : Nat → List Int → List Int → Bool → Option (Bool)
  | 0, _, _, _ => none
  | k + 1, x0, x25, x198 => if x198 = true then (none) else ((laws_numberOf.f k x0).bind fun t232 => (laws_FnNewer.l0 k (Int.tmod t232 64) ([] : List Int) x25 (x25.length : Int) 0))
def laws_FnNewer.l0 : Nat → Int → List Int → List Int → Int → Int → Option (Bool)
  | 0, _, _, _, _, _ => none
  | k + 1, x30, x31, x202, x203, x204 => if x204 < x203 then (if 0 ≤ x204 then (if x204 < (x202.length : Int) then (if (rd x202 x204) ≥ 0 then (if x31.length < 17592186044416 then (laws_FnNewer.l0 k x30 (x31 ++ [Int.tmod (wrap64 (x30 + (Int.tmod (rd x202 x204) 32))) 64]) x202 x203 (wrap64 (x204 + 1))) else (none)) else (laws_FnNewer.l0 k x30 x31 x202 x203 (wrap64 (x204 + 1)))) else (none)) else (none)) else ((impl_FitsRing.f k x31).bind fun bt233 => (if (x31.length : Int) > 40 then (some true) else (if bt233.2 = true then (some bt233.1) else (none))))
def laws_FnNewer.j1 : Nat → List Int → List Int → Bool → Option (Bool)
  | 0, _, _, _ => none
  | k + 1, x0, x1, x178 => if x178 = true then (none) else (laws_FnNewer.j2 k x0 x1)
end
def laws_FnNewer.f (k : Nat) (l0 : List Int) (l1 : List Int) : Option (Bool) := if (wrap64 ((l0.length : Int) + (l1.length : Int))) > 1048576 then (some true) else ((spec_DrawIsNewer.f l0).bind fun bt205 => ((impl_IsNewer.f bt205.1 bt205.2).bind fun bt207 => ((spec_IsNewer.f bt205.1 bt205.2).bind fun bt209 => ((impl_StepsTo.f bt205.1 bt205.2).bind fun bt211 => ((spec_StepsTo.f bt205.1 bt205.2).bind fun bt213 => ((impl_NextSeq.f bt205.1).bind fun bt215 => ((spec_NextSeq.f bt205.1).bind fun bt217 => (if (bt207.2 != bt209.2) = true then (none) else (if (bt207.1 != bt209.1) = true then (none) else (if (bt211.2 != bt213.2) = true then (none) else (if bt211.1 = bt213.1 then (if (bt215.2 != bt217.2) = true then (none) else (laws_FnNewer.j0 k l0 l1 bt205.1 bt205.2 bt207.1 bt207.2 bt211.1 bt211.2 bt215.1 bt215.2 (bt215.1 != bt217.1))) else (none))))))))))))
theorem laws_FnNewer.mono_l : ∀ k, (∀ y0 y1 y2 y3 y4 y5 y6 y7 y8 y9 y10, LeO (laws_FnNewer.j0 k y0 y1 y2 y3 y4 y5 y6 y7 y8 y9 y10) (laws_FnNewer.j0 (k + 1) y0 y1 y2 y3 y4 y5 y6 y7 y8 y9 y10)) ∧ (∀ y0 y1, LeO (laws_FnNewer.j2 k y0 y1) (laws_FnNewer.j2 (k + 1) y0 y1)) ∧ (∀ y0 y1 y2, LeO (laws_FnNewer.j3 k y0 y1 y2) (laws_FnNewer.j3 (k + 1) y0 y1 y2)) ∧ (∀ y0 y1 y2 y3 y4, LeO (laws_FnNewer.l0 k y0 y1 y2 y3 y4) (laws_FnNewer.l0 (k + 1) y0 y1 y2 y3 y4)) ∧ (∀ y0 y1 y2, LeO (laws_FnNewer.j1 k y0 y1 y2) (laws_FnNewer.j1 (k + 1) y0 y1 y2))
  | 0 => ⟨fun _ _ _ _ _ _ _ _ _ _ _ r h => by simp [laws_FnNewer.j0] at h, fun _ _ r h => by simp [laws_FnNewer.j2] at h, fun _ _ _ r h => by simp [laws_FnNewer.j3] at h, fun _ _ _ _ _ r h => by simp [laws_FnNewer.l0] at h, fun _ _ _ r h => by simp [laws_FnNewer.j1] at h⟩
  | k + 1 => by
    obtain ⟨ih0, ih1, ih2, ih3, ih4⟩ := laws_FnNewer.mono_l k
    refine ⟨?_, ?_, ?_, ?_, ?_⟩
    · intro y0 y1 y2 y3 y4 y5 y6 y7 y8 y9 y10
      unfold laws_FnNewer.j0
      repeat' first
      | (with_reducible exact ih0 _ _ _ _ _ _ _ _ _ _ _)
      | (with_reducible exact ih1 _ _)
      | (with_reducible exact ih2 _ _ _)
      | (with_reducible exact ih3 _ _ _ _ _)
      | (with_reducible exact ih4 _ _ _)
      | (with_reducible exact impl_FitsRing.mono _ _)
      | (with_reducible exact laws_numberOf.mono _ _)
      | (with_reducible exact spec_DrawFitsRing.mono _ _)
      | (with_reducible exact spec_FitsRing.mono _ _)
      | (with_reducible exact LeO.refl _)
      | (with_reducible exact LeO.none _)
      | (with_reducible refine LeO.ite ?_ ?_)
      | (with_reducible refine LeO.bind ?_ (fun _ => ?_))
      | exact ih0 _ _ _ _ _ _ _ _ _ _ _
      | exact ih1 _ _
      | exact ih2 _ _ _
      | exact ih3 _ _ _ _ _
      | exact ih4 _ _ _
      | exact impl_FitsRing.mono _ _
      | exact laws_numberOf.mono _ _
      | exact spec_DrawFitsRing.mono _ _
      | exact spec_FitsRing.mono _ _
      | exact LeO.none _
      | refine LeO.ite ?_ ?_
      | refine LeO.bind ?_ (fun _ => ?_)
    · intro y0 y1
      unfold laws_FnNewer.j2
      repeat' first
      | (with_reducible exact ih0 _ _ _ _ _ _ _ _ _ _ _)
      | (with_reducible exact ih1 _ _)
      | (with_reducible exact ih2 _ _ _)
      | (with_reducible exact ih3 _ _ _ _ _)
      | (with_reducible exact ih4 _ _ _)
      | (with_reducible exact impl_FitsRing.mono _ _)
      | (with_reducible exact laws_numberOf.mono _ _)
      | (with_reducible exact spec_DrawFitsRing.mono _ _)
      | (with_reducible exact spec_FitsRing.mono _ _)
      | (with_reducible exact LeO.refl _)
      | (with_reducible exact LeO.none _)
      | (with_reducible refine LeO.ite ?_ ?_)
      | (with_reducible refine LeO.bind ?_ (fun _ => ?_))
      | exact ih0 _ _ _ _ _ _ _ _ _ _ _
      | exact ih1 _ _
      | exact ih2 _ _ _
      | exact ih3 _ _ _ _ _
      | exact ih4 _ _ _
      | exact impl_FitsRing.mono _ _
      | exact laws_numberOf.mono _ _
      | exact spec_DrawFitsRing.mono _ _
      | exact spec_FitsRing.mono _ _
      | exact LeO.none _
      | refine LeO.ite ?_ ?_
      | refine LeO.bind ?_ (fun _ => ?_)
    · intro y0 y1 y2
      unfold laws_FnNewer.j3
      repeat' first
      | (with_reducible exact ih0 _ _ _ _ _ _ _ _ _ _ _)
      | (with_reducible exact ih1 _ _)
      | (with_reducible exact ih2 _ _ _)
      | (with_reducible exact ih3 _ _ _ _ _)
      | (with_reducible exact ih4 _ _ _)
      | (with_reducible exact impl_FitsRing.mono _ _)
      | (with_reducible exact laws_numberOf.mono _ _)
      | (with_reducible exact spec_DrawFitsRing.mono _ _)
      | (with_reducible exact spec_FitsRing.mono _ _)
      | (with_reducible exact LeO.refl _)
      | (with_reducible exact LeO.none _)
      | (with_reducible refine LeO.ite ?_ ?_)
      | (with_reducible refine LeO.bind ?_ (fun _ => ?_))
      | exact ih0 _ _ _ _ _ _ _ _ _ _ _
      | exact ih1 _ _
      | exact ih2 _ _ _
      | exact ih3 _ _ _ _ _
      | exact ih4 _ _ _
      | exact impl_FitsRing.mono _ _
      | exact laws_numberOf.mono _ _
      | exact spec_DrawFitsRing.mono _ _
      | exact spec_FitsRing.mono _ _
      | exact LeO.none _
      | refine LeO.ite ?_ ?_
      | refine LeO.bind ?_ (fun _ => ?_)
    · intro y0 y1 y2 y3 y4
      unfold laws_FnNewer.l0
      repeat' first
      | (with_reducible exact ih0 _ _ _ _ _ _ _ _ _ _ _)
      | (with_reducible exact ih1 _ _)
      | (with_reducible exact ih2 _ _ _)
      | (with_reducible exact ih3 _ _ _ _ _)
      | (with_reducible exact ih4 _ _ _)
      | (with_reducible exact impl_FitsRing.mono _ _)
      | (with_reducible exact laws_numberOf.mono _ _)
      | (with_reducible exact spec_DrawFitsRing.mono _ _)
      | (with_reducible exact spec_FitsRing.mono _ _)
      | (with_reducible exact LeO.refl _)
      | (with_reducible exact LeO.none _)
      | (with_reducible refine LeO.ite ?_ ?_)
      | (with_reducible refine LeO.bind ?_ (fun _ => ?_))
      | exact ih0 _ _ _ _ _ _ _ _ _ _ _
      | exact ih1 _ _
      | exact ih2 _ _ _
      | exact ih3 _ _ _ _ _
      | exact ih4 _ _ _
      | exact impl_FitsRing.mono _ _
      | exact laws_numberOf.mono _ _
      | exact spec_DrawFitsRing.mono _ _
      | exact spec_FitsRing.mono _ _
      | exact LeO.none _
      | refine LeO.ite ?_ ?_
      | refine LeO.bind ?_ (fun _ => ?_)
    · intro y0 y1 y2
      unfold laws_FnNewer.j1
      repeat' first
      | (with_reducible exact ih0 _ _ _ _ _ _ _ _ _ _ _)
      | (with_reducible exact ih1 _ _)
      | (with_reducible exact ih2 _ _ _)
      | (with_reducible exact ih3 _ _ _ _ _)
      | (with_reducible exact ih4 _ _ _)
      | (with_reducible exact impl_FitsRing.mono _ _)
      | (with_reducible exact laws_numberOf.mono _ _)
      | (with_reducible exact spec_DrawFitsRing.mono _ _)
      | (with_reducible exact spec_FitsRing.mono _ _)
      | (with_reducible exact LeO.refl _)
      | (with_reducible exact LeO.none _)
      | (with_reducible refine LeO.ite ?_ ?_)
      | (with_reducible refine LeO.bind ?_ (fun _ => ?_))
      | exact ih0 _ _ _ _ _ _ _ _ _ _ _
      | exact ih1 _ _
      | exact ih2 _ _ _
      | exact ih3 _ _ _ _ _
      | exact ih4 _ _ _
      | exact impl_FitsRing.mono _ _
      | exact laws_numberOf.mono _ _
      | exact spec_DrawFitsRing.mono _ _
      | exact spec_FitsRing.mono _ _
      | exact LeO.none _
      | refine LeO.ite ?_ ?_
      | refine LeO.bind ?_ (fun _ => ?_)
theorem laws_FnNewer.mono : ∀ a0 a1 k, LeO (laws_FnNewer.f k a0 a1) (laws_FnNewer.f (k + 1) a0 a1) := by
  intro a0 a1 k
  obtain ⟨ih0, ih1, ih2, ih3, ih4⟩ := laws_FnNewer.mono_l k
  unfold laws_FnNewer.f
  repeat' first
      | (with_reducible exact ih0 _ _ _ _ _ _ _ _ _ _ _)
      | (with_reducible exact ih1 _ _)
      | (with_reducible exact ih2 _ _ _)
      | (with_reducible exact ih3 _ _ _ _ _)
      | (with_reducible exact ih4 _ _ _)
      | (with_reducible exact impl_FitsRing.mono _ _)
      | (with_reducible exact laws_numberOf.mono _ _)
      | (with_reducible exact spec_DrawFitsRing.mono _ _)
      | (with_reducible exact spec_FitsRing.mono _ _)
      | (with_reducible exact LeO.refl _)
      | (with_reducible exact LeO.none _)
      | (with_reducible refine LeO.ite ?_ ?_)
      | (with_reducible refine LeO.bind ?_ (fun _ => ?_))
      | exact ih0 _ _ _ _ _ _ _ _ _ _ _
      | exact ih1 _ _
      | exact ih2 _ _ _
      | exact ih3 _ _ _ _ _
      | exact ih4 _ _ _
      | exact impl_FitsRing.mono _ _
      | exact laws_numberOf.mono _ _
      | exact spec_DrawFitsRing.mono _ _
      | exact spec_FitsRing.mono _ _
      | exact LeO.none _
      | refine LeO.ite ?_ ?_
      | refine LeO.bind ?_ (fun _ => ?_)
set_option maxHeartbeats 8000000 in
set_option maxRecDepth 100000 in
theorem laws_FnNewer.calls (k : Nat) (A0 : Option Addr) (c0 : Nat) (l0 : List Int) (A1 : Option Addr) (c1 : Nat) (l1 : List Int) (r : Bool) (w : World) (hr0 : Kd.C (Kd.int .u8) w A0 l0.length l0) (hc0 : l0.length ≤ c0) (hr1 : Kd.C (Kd.int .u8) w A1 l1.length l1) (hc1 : l1.length ≤ c1) (h : laws_FnNewer.f k l0 l1 = some r) :
    Calls Try.prog 11 #[.slice A0 l0.length c0, .slice A1 l1.length c1] w fun e w' => e = .returned (.bool r) ∧ Below w.heap.size w w' := by
  have HR0 := Aside0.mk hr0
  have HC0 := Aside0.mk hc0
  clear hr0 hc0
  have HR1 := Aside0.mk hr1
  have HC1 := Aside0.mk hc1
  clear hr1 hc1
  have HB := Aside0.mk (Below.refl w.heap.size w)
  have H : (if (wrap64 ((l0.length : Int) + (l1.length : Int))) > 1048576 then (some true) else ((spec_DrawIsNewer.f l0).bind fun bt205 => ((impl_IsNewer.f bt205.1 bt205.2).bind fun bt207 => ((spec_IsNewer.f bt205.1 bt205.2).bind fun bt209 => ((impl_StepsTo.f bt205.1 bt205.2).bind fun bt211 => ((spec_StepsTo.f bt205.1 bt205.2).bind fun bt213 => ((impl_NextSeq.f bt205.1).bind fun bt215 => ((spec_NextSeq.f bt205.1).bind fun bt217 => (if (bt207.2 != bt209.2) = true then (none) else (if (bt207.1 != bt209.1) = true then (none) else (if (bt211.2 != bt213.2) = true then (none) else (if bt211.1 = bt213.1 then (if (bt215.2 != bt217.2) = true then (none) else (laws_FnNewer.j0 k l0 l1 bt205.1 bt205.2 bt207.1 bt207.2 bt211.1 bt211.2 bt215.1 bt215.2 (bt215.1 != bt217.1))) else (none))))))))))))) = some r := h
  clear h
  by_cases c3 : (wrap64 ((l0.length : Int) + (l1.length : Int))) > 1048576
  · rw [if_pos c3] at H
    have c3b0 : decide (1048576 < (wrap64 ((l0.length : Int) + (l1.length : Int)))) = true := decide_eq_true c3
    clear c3
    as_aux_lemma =>
      obtain rfl := Option.some.inj H
      go_enter Try.func11, Try.ntmps11
      go_wp2
      go_ret
      exact ⟨by first | rfl | (simp [errW_none, errW_some] <;> rfl) | (simp [*, errW_none, errW_some] <;> rfl), by repeat (first | (with_reducible first | exact HB.out | apply below_alloc | apply pw_below_drewN | apply below_drew1) | exact HB.out)⟩
  · rw [if_neg c3] at H
    have c3b0 : decide (1048576 < (wrap64 ((l0.length : Int) + (l1.length : Int)))) = false := decide_eq_false c3
    clear c3
    replace H := Option.bind_eq_some_iff.mp H
    obtain ⟨⟨t205, t206⟩, A40, H⟩ := H
    replace H : ((impl_IsNewer.f t205 t206).bind fun bt207 => ((spec_IsNewer.f t205 t206).bind fun bt209 => ((impl_StepsTo.f t205 t206).bind fun bt211 => ((spec_StepsTo.f t205 t206).bind fun bt213 => ((impl_NextSeq.f t205).bind fun bt215 => ((spec_NextSeq.f t205).bind fun bt217 => (if (bt207.2 != bt209.2) = true then (none) else (if (bt207.1 != bt209.1) = true then (none) else (if (bt211.2 != bt213.2) = true then (none) else (if bt211.1 = bt213.1 then (if (bt215.2 != bt217.2) = true then (none) else (laws_FnNewer.j0 k l0 l1 t205 t206 bt207.1 bt207.2 bt211.1 bt211.2 bt215.1 bt215.2 (bt215.1 != bt217.1))) else (none))))))))))) = some r := H
    have A4 := Aside0.mk A40
    clear A40
    replace H := Option.bind_eq_some_iff.mp H
    obtain ⟨⟨t207, t208⟩, A50, H⟩ := H
    replace H : ((spec_IsNewer.f t205 t206).bind fun bt209 => ((impl_StepsTo.f t205 t206).bind fun bt211 => ((spec_StepsTo.f t205 t206).bind fun bt213 => ((impl_NextSeq.f t205).bind fun bt215 => ((spec_NextSeq.f t205).bind fun bt217 => (if (t208 != bt209.2) = true then (none) else (if (t207 != bt209.1) = true then (none) else (if (bt211.2 != bt213.2) = true then (none) else (if bt211.1 = bt213.1 then (if (bt215.2 != bt217.2) = true then (none) else (laws_FnNewer.j0 k l0 l1 t205 t206 t207 t208 bt211.1 bt211.2 bt215.1 bt215.2 (bt215.1 != bt217.1))) else (none)))))))))) = some r := H
    have A5 := Aside0.mk A50
    clear A50
    replace H := Option.bind_eq_some_iff.mp H
    obtain ⟨⟨t209, t210⟩, A60, H⟩ := H
    replace H : ((impl_StepsTo.f t205 t206).bind fun bt211 => ((spec_StepsTo.f t205 t206).bind fun bt213 => ((impl_NextSeq.f t205).bind fun bt215 => ((spec_NextSeq.f t205).bind fun bt217 => (if (t208 != t210) = true then (none) else (if (t207 != t209) = true then (none) else (if (bt211.2 != bt213.2) = true then (none) else (if bt211.1 = bt213.1 then (if (bt215.2 != bt217.2) = true then (none) else (laws_FnNewer.j0 k l0 l1 t205 t206 t207 t208 bt211.1 bt211.2 bt215.1 bt215.2 (bt215.1 != bt217.1))) else (none))))))))) = some r := H
    have A6 := Aside0.mk A60
    clear A60
    replace H := Option.bind_eq_some_iff.mp H
    obtain ⟨⟨t211, t212⟩, A70, H⟩ := H
    replace H : ((spec_StepsTo.f t205 t206).bind fun bt213 => ((impl_NextSeq.f t205).bind fun bt215 => ((spec_NextSeq.f t205).bind fun bt217 => (if (t208 != t210) = true then (none) else (if (t207 != t209) = true then (none) else (if (t212 != bt213.2) = true then (none) else (if t211 = bt213.1 then (if (bt215.2 != bt217.2) = true then (none) else (laws_FnNewer.j0 k l0 l1 t205 t206 t207 t208 t211 t212 bt215.1 bt215.2 (bt215.1 != bt217.1))) else (none)))))))) = some r := H
    have A7 := Aside0.mk A70
    clear A70
    replace H := Option.bind_eq_some_iff.mp H
    obtain ⟨⟨t213, t214⟩, A80, H⟩ := H
    replace H : ((impl_NextSeq.f t205).bind fun bt215 => ((spec_NextSeq.f t205).bind fun bt217 => (if (t208 != t210) = true then (none) else (if (t207 != t209) = true then (none) else (if (t212 != t214) = true then (none) else (if t211 = t213 then (if (bt215.2 != bt217.2) = true then (none) else (laws_FnNewer.j0 k l0 l1 t205 t206 t207 t208 t211 t212 bt215.1 bt215.2 (bt215.1 != bt217.1))) else (none))))))) = some r := H
    have A8 := Aside0.mk A80
    clear A80
    replace H := Option.bind_eq_some_iff.mp H
    obtain ⟨⟨t215, t216⟩, A90, H⟩ := H
    replace H : ((spec_NextSeq.f t205).bind fun bt217 => (if (t208 != t210) = true then (none) else (if (t207 != t209) = true then (none) else (if (t212 != t214) = true then (none) else (if t211 = t213 then (if (t216 != bt217.2) = true then (none) else (laws_FnNewer.j0 k l0 l1 t205 t206 t207 t208 t211 t212 t215 t216 (t215 != bt217.1))) else (none)))))) = some r := H
    have A9 := Aside0.mk A90
    clear A90
    replace H := Option.bind_eq_some_iff.mp H
    obtain ⟨⟨t217, t218⟩, A100, H⟩ := H
    replace H : (if (t208 != t210) = true then (none) else (if (t207 != t209) = true then (none) else (if (t212 != t214) = true then (none) else (if t211 = t213 then (if (t216 != t218) = true then (none) else (laws_FnNewer.j0 k l0 l1 t205 t206 t207 t208 t211 t212 t215 t216 (t215 != t217))) else (none))))) = some r := H
    have A10 := Aside0.mk A100
    clear A100
    have HC11 := Aside0.mk H
    clear H
    go_enter Try.func11, Try.ntmps11
    go_upto_region 10 with (first | ((with_reducible refine gate_callee (f := 37) rfl ?_); refine goesL_ (some 44) rfl rfl Try.func37 (by kernel_rfl) rfl #[.slice A0 l0.length c0] rfl (by (try simp only [List.map_toArray, List.map_cons, List.map_nil]); first | done | rfl | (simp only [List.length_drop, List.length_take]; rfl)) ?_; (with_reducible refine (spec_DrawIsNewer.calls _ _ l0 t205 t206 _ ?side1 ?side2 A4.out).mono ?_); (case side1 => repeat (first | exact HR0.out | (with_reducible refine Kd.C_alloc ?_ _) | (with_reducible refine Kd.C_drewN ?_ _) | (with_reducible refine Kd.C_drew ?_))); (case side2 => exact HC0.out); rintro e w12 ⟨rfl, hb⟩; refine ⟨_, rfl, ?_⟩; have n0_ := Aside0.mk (below_step (by repeat (first | (with_reducible first | exact HB.out | apply below_alloc | apply pw_below_drewN | apply below_drew1) | exact HB.out)) hb); clear HB; have HB := n0_; clear n0_; (try clear hb); (try clear hb2); (try clear hk); (try clear hi)) | ((with_reducible refine gate_callee (f := 18) rfl ?_); refine goesL_ (some 50) rfl rfl Try.func18 (by kernel_rfl) rfl #[.int .i64 t205, .int .i64 t206] rfl (by (try simp only [List.map_toArray, List.map_cons, List.map_nil]); first | done | rfl | (simp only [List.length_drop, List.length_take]; rfl)) ?_; (with_reducible refine (impl_IsNewer.calls t205 t206 t207 t208 _ A5.out).mono ?_); rintro e w' ⟨rfl, ⟨nd, rfl⟩⟩; refine ⟨_, rfl, ?_⟩) | ((with_reducible refine gate_callee (f := 17) rfl ?_); refine goesL_ (some 56) rfl rfl Try.func17 (by kernel_rfl) rfl #[.int .i64 t205, .int .i64 t206] rfl (by (try simp only [List.map_toArray, List.map_cons, List.map_nil]); first | done | rfl | (simp only [List.length_drop, List.length_take]; rfl)) ?_; (with_reducible refine (spec_IsNewer.calls t205 t206 t209 t210 _ A6.out).mono ?_); rintro e w' ⟨rfl, ⟨nd, rfl⟩⟩; refine ⟨_, rfl, ?_⟩) | ((with_reducible refine gate_callee (f := 16) rfl ?_); refine goesL_ (some 62) rfl rfl Try.func16 (by kernel_rfl) rfl #[.int .i64 t205, .int .i64 t206] rfl (by (try simp only [List.map_toArray, List.map_cons, List.map_nil]); first | done | rfl | (simp only [List.length_drop, List.length_take]; rfl)) ?_; (with_reducible refine (impl_StepsTo.calls t205 t206 t211 t212 _ A7.out).mono ?_); rintro e w' ⟨rfl, ⟨nd, rfl⟩⟩; refine ⟨_, rfl, ?_⟩) | ((with_reducible refine gate_callee (f := 15) rfl ?_); refine goesL_ (some 68) rfl rfl Try.func15 (by kernel_rfl) rfl #[.int .i64 t205, .int .i64 t206] rfl (by (try simp only [List.map_toArray, List.map_cons, List.map_nil]); first | done | rfl | (simp only [List.length_drop, List.length_take]; rfl)) ?_; (with_reducible refine (spec_StepsTo.calls t205 t206 t213 t214 _ A8.out).mono ?_); rintro e w' ⟨rfl, ⟨nd, rfl⟩⟩; refine ⟨_, rfl, ?_⟩) | ((with_reducible refine gate_callee (f := 14) rfl ?_); refine goesL_ (some 73) rfl rfl Try.func14 (by kernel_rfl) rfl #[.int .i64 t205] rfl (by (try simp only [List.map_toArray, List.map_cons, List.map_nil]); first | done | rfl | (simp only [List.length_drop, List.length_take]; rfl)) ?_; (with_reducible refine (impl_NextSeq.calls t205 t215 t216 _ A9.out).mono ?_); rintro e w' ⟨rfl, ⟨nd, rfl⟩⟩; refine ⟨_, rfl, ?_⟩) | ((with_reducible refine gate_callee (f := 13) rfl ?_); refine goesL_ (some 78) rfl rfl Try.func13 (by kernel_rfl) rfl #[.int .i64 t205] rfl (by (try simp only [List.map_toArray, List.map_cons, List.map_nil]); first | done | rfl | (simp only [List.length_drop, List.length_take]; rfl)) ?_; (with_reducible refine (spec_NextSeq.calls t205 t217 t218 _ A10.out).mono ?_); rintro e w' ⟨rfl, ⟨nd, rfl⟩⟩; refine ⟨_, rfl, ?_⟩))
    (try simp only [Act.put, List.setIfInBounds_toArray, List.set_cons_zero, List.set_cons_succ])
    go_cut [108] (fun v108 wc => ∃ (kq : Nat) (x108_10 : Bool), v108 = .bool x108_10 ∧ Aside0 (laws_FnNewer.j0 kq l0 l1 t205 t206 t207 t208 t211 t212 t215 t216 x108_10 = some r) ∧ Aside0 (kq ≤ k) ∧ Aside0 (Below w.heap.size w wc))
    case first =>
      have H := HC11.out
      clear HC11
      by_cases c13 : (t208 != t210) = true
      · rw [if_pos c13] at H
        exact absurd H (by simp)
      · rw [if_neg c13] at H
        have c13b0 : (t208 != t210) = false := by simpa using c13
        (try (have c13b1 : decide (t208 = t210) = true := by simpa using c13))
        (try (have c13b2 : (t208 == t210) = true := by simpa using c13))
        clear c13
        (first | rw [c13b0] | (simp only [i64_w, i32_w]; rw [c13b0]) | skip)
        by_cases c14 : (t207 != t209) = true
        · rw [if_pos c14] at H
          exact absurd H (by simp)
        · rw [if_neg c14] at H
          have c14b0 : (t207 != t209) = false := by simpa using c14
          (try (have c14b1 : decide (t207 = t209) = true := by simpa using c14))
          (try (have c14b2 : (t207 == t209) = true := by simpa using c14))
          clear c14
          by_cases c15 : (t212 != t214) = true
          · rw [if_pos c15] at H
            exact absurd H (by simp)
          · rw [if_neg c15] at H
            have c15b0 : (t212 != t214) = false := by simpa using c15
            (try (have c15b1 : decide (t212 = t214) = true := by simpa using c15))
            (try (have c15b2 : (t212 == t214) = true := by simpa using c15))
            clear c15
            by_cases c16 : t211 = t213
            · rw [if_pos c16] at H
              have c16b0 : (t211 == t213) = true := beq_iff_eq.mpr c16
              have c16b1 : (t211 != t213) = false := bne_eq_false_iff_eq.mpr c16
              clear c16
              by_cases c17 : (t216 != t218) = true
              · rw [if_pos c17] at H
                exact absurd H (by simp)
              · rw [if_neg c17] at H
                have c17b0 : (t216 != t218) = false := by simpa using c17
                (try (have c17b1 : decide (t216 = t218) = true := by simpa using c17))
                (try (have c17b2 : (t216 == t218) = true := by simpa using c17))
                clear c17
                as_aux_lemma =>
                  have H' := Aside0.mk H
                  clear H
                  go_wp2
                  go_meet
                  case rel => exact ⟨_, ((t215 != t217)), (by first | rfl | (simp; done) | (simp [*]; done)), H', ⟨by first | omega | exact Nat.le_refl _⟩, ⟨by repeat (first | (with_reducible first | exact HB.out | apply below_alloc | apply pw_below_drewN | apply below_drew1) | exact HB.out)⟩⟩
            · rw [if_neg c16] at H
              exact absurd H (by simp)
    case rest =>
      clear HC11
      try clear c1
      try clear p2
      try clear c3
      try clear c3b0
      try clear p6
      try clear c11
      try clear c13
      try clear c13b0
      try clear c13b1
      try clear c13b2
      try clear c14
      try clear c14b0
      try clear c14b1
      try clear c14b2
      try clear c15
      try clear c15b0
      try clear c15b1
      try clear c15b2
      try clear c16
      try clear c16b0
      try clear c16b1
      try clear c17
      try clear c17b0
      try clear c17b1
      try clear c17b2
      obtain ⟨kq, x108_10, rfl, HA, HJ10, HB⟩ := hcut
      cases kq with
      | zero => exact absurd HA.out (by simp [laws_FnNewer.j0])
      | succ kj10 =>
        have H := HA.out
        clear HA
        simp only [laws_FnNewer.j0] at H
        by_cases c18 : x108_10 = true
        · subst c18
          have H1 : (none) = some r := by rw [if_pos rfl] at H; exact H
          clear H
          have H := H1
          clear H1
          exact absurd H (by simp)
        · replace c18 := Bool.eq_false_iff.mpr c18
          subst c18
          have H1 : (if t208 = true then ((impl_IsNewer.f t206 t205).bind fun bt219 => ((impl_StepsTo.f t206 t205).bind fun bt221 => ((impl_IsNewer.f t215 t205).bind fun bt223 => (if t212 = true then (if t216 = true then (if bt219.2 = true then (if t207 = true then (if bt219.1 = true then (none) else (if t205 = t206 then (if (false != true) = true then (none) else (if bt221.2 = true then (if (Int.tmod (wrap64 (t211 + bt221.1)) 64) = 0 then (if bt223.2 = true then (laws_FnNewer.j1 kj10 l0 l1 (!bt223.1)) else (none)) else (none)) else (none))) else (if (false != (t211 == 32)) = true then (none) else (if bt221.2 = true then (if (Int.tmod (wrap64 (t211 + bt221.1)) 64) = 0 then (if bt223.2 = true then (laws_FnNewer.j1 kj10 l0 l1 (!bt223.1)) else (none)) else (none)) else (none))))) else (if t205 = t206 then (if ((!bt219.1) != true) = true then (none) else (if bt221.2 = true then (if (Int.tmod (wrap64 (t211 + bt221.1)) 64) = 0 then (if bt223.2 = true then (laws_FnNewer.j1 kj10 l0 l1 (!bt223.1)) else (none)) else (none)) else (none))) else (if ((!bt219.1) != (t211 == 32)) = true then (none) else (if bt221.2 = true then (if (Int.tmod (wrap64 (t211 + bt221.1)) 64) = 0 then (if bt223.2 = true then (laws_FnNewer.j1 kj10 l0 l1 (!bt223.1)) else (none)) else (none)) else (none))))) else (none)) else (none)) else (none))))) else (laws_FnNewer.j2 kj10 l0 l1)) = some r := by rw [if_neg (show ¬ (false = true) by decide)] at H; exact H
          clear H
          have H := H1
          clear H1
          have HC19 := Aside0.mk H
          clear H
          go_upto_if 109 with (fail)
          go_cut [] (fun wc => ∃ (kq : Nat), Aside0 (laws_FnNewer.j2 kq l0 l1 = some r) ∧ Aside0 (kq ≤ kj10) ∧ Aside0 (Below w.heap.size w wc))
          case first =>
            have H := HC19.out
            clear HC19
            by_cases c20 : t208 = true
            · subst c20
              have H1 : ((impl_IsNewer.f t206 t205).bind fun bt219 => ((impl_StepsTo.f t206 t205).bind fun bt221 => ((impl_IsNewer.f t215 t205).bind fun bt223 => (if t212 = true then (if t216 = true then (if bt219.2 = true then (if t207 = true then (if bt219.1 = true then (none) else (if t205 = t206 then (if (false != true) = true then (none) else (if bt221.2 = true then (if (Int.tmod (wrap64 (t211 + bt221.1)) 64) = 0 then (if bt223.2 = true then (laws_FnNewer.j1 kj10 l0 l1 (!bt223.1)) else (none)) else (none)) else (none))) else (if (false != (t211 == 32)) = true then (none) else (if bt221.2 = true then (if (Int.tmod (wrap64 (t211 + bt221.1)) 64) = 0 then (if bt223.2 = true then (laws_FnNewer.j1 kj10 l0 l1 (!bt223.1)) else (none)) else (none)) else (none))))) else (if t205 = t206 then (if ((!bt219.1) != true) = true then (none) else (if bt221.2 = true then (if (Int.tmod (wrap64 (t211 + bt221.1)) 64) = 0 then (if bt223.2 = true then (laws_FnNewer.j1 kj10 l0 l1 (!bt223.1)) else (none)) else (none)) else (none))) else (if ((!bt219.1) != (t211 == 32)) = true then (none) else (if bt221.2 = true then (if (Int.tmod (wrap64 (t211 + bt221.1)) 64) = 0 then (if bt223.2 = true then (laws_FnNewer.j1 kj10 l0 l1 (!bt223.1)) else (none)) else (none)) else (none))))) else (none)) else (none)) else (none))))) = some r := by rw [if_pos rfl] at H; exact H
              clear H
              have H := H1
              clear H1
              replace H := Option.bind_eq_some_iff.mp H
              obtain ⟨⟨t219, t220⟩, A210, H⟩ := H
              replace H : ((impl_StepsTo.f t206 t205).bind fun bt221 => ((impl_IsNewer.f t215 t205).bind fun bt223 => (if t212 = true then (if t216 = true then (if t220 = true then (if t207 = true then (if t219 = true then (none) else (if t205 = t206 then (if (false != true) = true then (none) else (if bt221.2 = true then (if (Int.tmod (wrap64 (t211 + bt221.1)) 64) = 0 then (if bt223.2 = true then (laws_FnNewer.j1 kj10 l0 l1 (!bt223.1)) else (none)) else (none)) else (none))) else (if (false != (t211 == 32)) = true then (none) else (if bt221.2 = true then (if (Int.tmod (wrap64 (t211 + bt221.1)) 64) = 0 then (if bt223.2 = true then (laws_FnNewer.j1 kj10 l0 l1 (!bt223.1)) else (none)) else (none)) else (none))))) else (if t205 = t206 then (if ((!t219) != true) = true then (none) else (if bt221.2 = true then (if (Int.tmod (wrap64 (t211 + bt221.1)) 64) = 0 then (if bt223.2 = true then (laws_FnNewer.j1 kj10 l0 l1 (!bt223.1)) else (none)) else (none)) else (none))) else (if ((!t219) != (t211 == 32)) = true then (none) else (if bt221.2 = true then (if (Int.tmod (wrap64 (t211 + bt221.1)) 64) = 0 then (if bt223.2 = true then (laws_FnNewer.j1 kj10 l0 l1 (!bt223.1)) else (none)) else (none)) else (none))))) else (none)) else (none)) else (none)))) = some r := H
              have A21 := Aside0.mk A210
              clear A210
              replace H := Option.bind_eq_some_iff.mp H
              obtain ⟨⟨t221, t222⟩, A220, H⟩ := H
              replace H : ((impl_IsNewer.f t215 t205).bind fun bt223 => (if t212 = true then (if t216 = true then (if t220 = true then (if t207 = true then (if t219 = true then (none) else (if t205 = t206 then (if (false != true) = true then (none) else (if t222 = true then (if (Int.tmod (wrap64 (t211 + t221)) 64) = 0 then (if bt223.2 = true then (laws_FnNewer.j1 kj10 l0 l1 (!bt223.1)) else (none)) else (none)) else (none))) else (if (false != (t211 == 32)) = true then (none) else (if t222 = true then (if (Int.tmod (wrap64 (t211 + t221)) 64) = 0 then (if bt223.2 = true then (laws_FnNewer.j1 kj10 l0 l1 (!bt223.1)) else (none)) else (none)) else (none))))) else (if t205 = t206 then (if ((!t219) != true) = true then (none) else (if t222 = true then (if (Int.tmod (wrap64 (t211 + t221)) 64) = 0 then (if bt223.2 = true then (laws_FnNewer.j1 kj10 l0 l1 (!bt223.1)) else (none)) else (none)) else (none))) else (if ((!t219) != (t211 == 32)) = true then (none) else (if t222 = true then (if (Int.tmod (wrap64 (t211 + t221)) 64) = 0 then (if bt223.2 = true then (laws_FnNewer.j1 kj10 l0 l1 (!bt223.1)) else (none)) else (none)) else (none))))) else (none)) else (none)) else (none))) = some r := H
              have A22 := Aside0.mk A220
              clear A220
              replace H := Option.bind_eq_some_iff.mp H
              obtain ⟨⟨t223, t224⟩, A230, H⟩ := H
              replace H : (if t212 = true then (if t216 = true then (if t220 = true then (if t207 = true then (if t219 = true then (none) else (if t205 = t206 then (if (false != true) = true then (none) else (if t222 = true then (if (Int.tmod (wrap64 (t211 + t221)) 64) = 0 then (if t224 = true then (laws_FnNewer.j1 kj10 l0 l1 (!t223)) else (none)) else (none)) else (none))) else (if (false != (t211 == 32)) = true then (none) else (if t222 = true then (if (Int.tmod (wrap64 (t211 + t221)) 64) = 0 then (if t224 = true then (laws_FnNewer.j1 kj10 l0 l1 (!t223)) else (none)) else (none)) else (none))))) else (if t205 = t206 then (if ((!t219) != true) = true then (none) else (if t222 = true then (if (Int.tmod (wrap64 (t211 + t221)) 64) = 0 then (if t224 = true then (laws_FnNewer.j1 kj10 l0 l1 (!t223)) else (none)) else (none)) else (none))) else (if ((!t219) != (t211 == 32)) = true then (none) else (if t222 = true then (if (Int.tmod (wrap64 (t211 + t221)) 64) = 0 then (if t224 = true then (laws_FnNewer.j1 kj10 l0 l1 (!t223)) else (none)) else (none)) else (none))))) else (none)) else (none)) else (none)) = some r := H
              have A23 := Aside0.mk A230
              clear A230
              have HC24 := Aside0.mk H
              clear H
              go_upto_region 16 with (first | ((with_reducible refine gate_callee (f := 18) rfl ?_); refine goesL_ (some 113) rfl rfl Try.func18 (by kernel_rfl) rfl #[.int .i64 t206, .int .i64 t205] rfl (by (try simp only [List.map_toArray, List.map_cons, List.map_nil]); first | done | rfl | (simp only [List.length_drop, List.length_take]; rfl)) ?_; (with_reducible refine (impl_IsNewer.calls t206 t205 t219 t220 _ A21.out).mono ?_); rintro e w' ⟨rfl, ⟨nd, rfl⟩⟩; refine ⟨_, rfl, ?_⟩) | ((with_reducible refine gate_callee (f := 16) rfl ?_); refine goesL_ (some 119) rfl rfl Try.func16 (by kernel_rfl) rfl #[.int .i64 t206, .int .i64 t205] rfl (by (try simp only [List.map_toArray, List.map_cons, List.map_nil]); first | done | rfl | (simp only [List.length_drop, List.length_take]; rfl)) ?_; (with_reducible refine (impl_StepsTo.calls t206 t205 t221 t222 _ A22.out).mono ?_); rintro e w' ⟨rfl, ⟨nd, rfl⟩⟩; refine ⟨_, rfl, ?_⟩) | ((with_reducible refine gate_callee (f := 18) rfl ?_); refine goesL_ (some 125) rfl rfl Try.func18 (by kernel_rfl) rfl #[.int .i64 t215, .int .i64 t205] rfl (by (try simp only [List.map_toArray, List.map_cons, List.map_nil]); first | done | rfl | (simp only [List.length_drop, List.length_take]; rfl)) ?_; (with_reducible refine (impl_IsNewer.calls t215 t205 t223 t224 _ A23.out).mono ?_); rintro e w' ⟨rfl, ⟨nd, rfl⟩⟩; refine ⟨_, rfl, ?_⟩))
              (try simp only [Act.put, List.setIfInBounds_toArray, List.set_cons_zero, List.set_cons_succ])
              go_cut [178] (fun v178 wc => ∃ (kq : Nat) (x178_23 : Bool), v178 = .bool x178_23 ∧ Aside0 (laws_FnNewer.j1 kq l0 l1 x178_23 = some r) ∧ Aside0 (kq ≤ kj10) ∧ Aside0 (Below w.heap.size w wc))
              case first =>
                have H := HC24.out
                clear HC24
                by_cases c25 : t212 = true
                · subst c25
                  have H1 : (if t216 = true then (if t220 = true then (if t207 = true then (if t219 = true then (none) else (if t205 = t206 then (if (false != true) = true then (none) else (if t222 = true then (if (Int.tmod (wrap64 (t211 + t221)) 64) = 0 then (if t224 = true then (laws_FnNewer.j1 kj10 l0 l1 (!t223)) else (none)) else (none)) else (none))) else (if (false != (t211 == 32)) = true then (none) else (if t222 = true then (if (Int.tmod (wrap64 (t211 + t221)) 64) = 0 then (if t224 = true then (laws_FnNewer.j1 kj10 l0 l1 (!t223)) else (none)) else (none)) else (none))))) else (if t205 = t206 then (if ((!t219) != true) = true then (none) else (if t222 = true then (if (Int.tmod (wrap64 (t211 + t221)) 64) = 0 then (if t224 = true then (laws_FnNewer.j1 kj10 l0 l1 (!t223)) else (none)) else (none)) else (none))) else (if ((!t219) != (t211 == 32)) = true then (none) else (if t222 = true then (if (Int.tmod (wrap64 (t211 + t221)) 64) = 0 then (if t224 = true then (laws_FnNewer.j1 kj10 l0 l1 (!t223)) else (none)) else (none)) else (none))))) else (none)) else (none)) = some r := by rw [if_pos rfl] at H; exact H
                  clear H
                  have H := H1
                  clear H1
                  by_cases c26 : t216 = true
                  · subst c26
                    have H1 : (if t220 = true then (if t207 = true then (if t219 = true then (none) else (if t205 = t206 then (if (false != true) = true then (none) else (if t222 = true then (if (Int.tmod (wrap64 (t211 + t221)) 64) = 0 then (if t224 = true then (laws_FnNewer.j1 kj10 l0 l1 (!t223)) else (none)) else (none)) else (none))) else (if (false != (t211 == 32)) = true then (none) else (if t222 = true then (if (Int.tmod (wrap64 (t211 + t221)) 64) = 0 then (if t224 = true then (laws_FnNewer.j1 kj10 l0 l1 (!t223)) else (none)) else (none)) else (none))))) else (if t205 = t206 then (if ((!t219) != true) = true then (none) else (if t222 = true then (if (Int.tmod (wrap64 (t211 + t221)) 64) = 0 then (if t224 = true then (laws_FnNewer.j1 kj10 l0 l1 (!t223)) else (none)) else (none)) else (none))) else (if ((!t219) != (t211 == 32)) = true then (none) else (if t222 = true then (if (Int.tmod (wrap64 (t211 + t221)) 64) = 0 then (if t224 = true then (laws_FnNewer.j1 kj10 l0 l1 (!t223)) else (none)) else (none)) else (none))))) else (none)) = some r := by rw [if_pos rfl] at H; exact H
                    clear H
                    have H := H1
                    clear H1
                    by_cases c27 : t220 = true
                    · subst c27
                      have H1 : (if t207 = true then (if t219 = true then (none) else (if t205 = t206 then (if (false != true) = true then (none) else (if t222 = true then (if (Int.tmod (wrap64 (t211 + t221)) 64) = 0 then (if t224 = true then (laws_FnNewer.j1 kj10 l0 l1 (!t223)) else (none)) else (none)) else (none))) else (if (false != (t211 == 32)) = true then (none) else (if t222 = true then (if (Int.tmod (wrap64 (t211 + t221)) 64) = 0 then (if t224 = true then (laws_FnNewer.j1 kj10 l0 l1 (!t223)) else (none)) else (none)) else (none))))) else (if t205 = t206 then (if ((!t219) != true) = true then (none) else (if t222 = true then (if (Int.tmod (wrap64 (t211 + t221)) 64) = 0 then (if t224 = true then (laws_FnNewer.j1 kj10 l0 l1 (!t223)) else (none)) else (none)) else (none))) else (if ((!t219) != (t211 == 32)) = true then (none) else (if t222 = true then (if (Int.tmod (wrap64 (t211 + t221)) 64) = 0 then (if t224 = true then (laws_FnNewer.j1 kj10 l0 l1 (!t223)) else (none)) else (none)) else (none))))) = some r := by rw [if_pos rfl] at H; exact H
                      clear H
                      have H := H1
                      clear H1
                      by_cases c28 : t207 = true
                      · subst c28
                        have H1 : (if t219 = true then (none) else (if t205 = t206 then (if (false != true) = true then (none) else (if t222 = true then (if (Int.tmod (wrap64 (t211 + t221)) 64) = 0 then (if t224 = true then (laws_FnNewer.j1 kj10 l0 l1 (!t223)) else (none)) else (none)) else (none))) else (if (false != (t211 == 32)) = true then (none) else (if t222 = true then (if (Int.tmod (wrap64 (t211 + t221)) 64) = 0 then (if t224 = true then (laws_FnNewer.j1 kj10 l0 l1 (!t223)) else (none)) else (none)) else (none))))) = some r := by rw [if_pos rfl] at H; exact H
                        clear H
                        have H := H1
                        clear H1
                        by_cases c29 : t219 = true
                        · subst c29
                          have H1 : (none) = some r := by rw [if_pos rfl] at H; exact H
                          clear H
                          have H := H1
                          clear H1
                          exact absurd H (by simp)
                        · replace c29 := Bool.eq_false_iff.mpr c29
                          subst c29
                          have H1 : (if t205 = t206 then (if (false != true) = true then (none) else (if t222 = true then (if (Int.tmod (wrap64 (t211 + t221)) 64) = 0 then (if t224 = true then (laws_FnNewer.j1 kj10 l0 l1 (!t223)) else (none)) else (none)) else (none))) else (if (false != (t211 == 32)) = true then (none) else (if t222 = true then (if (Int.tmod (wrap64 (t211 + t221)) 64) = 0 then (if t224 = true then (laws_FnNewer.j1 kj10 l0 l1 (!t223)) else (none)) else (none)) else (none)))) = some r := by rw [if_neg (show ¬ (false = true) by decide)] at H; exact H
                          clear H
                          have H := H1
                          clear H1
                          by_cases c30 : t205 = t206
                          · rw [if_pos c30] at H
                            have c30b0 : (t205 == t206) = true := beq_iff_eq.mpr c30
                            have c30b1 : (t205 != t206) = false := bne_eq_false_iff_eq.mpr c30
                            clear c30
                            (first | rw [c30b0] | (simp only [i64_w, i32_w]; rw [c30b0]) | skip)
                            by_cases c31 : (false != true) = true
                            · rw [if_pos c31] at H
                              exact absurd H (by simp)
                            · rw [if_neg c31] at H
                              have c31b0 : (false != true) = false := by first | exact absurd c31 (by decide) | simpa using c31
                              (try (have c31b1 : decide (false = true) = true := by first | exact absurd c31 (by decide) | simpa using c31))
                              (try (have c31b2 : (false == true) = true := by first | exact absurd c31 (by decide) | simpa using c31))
                              clear c31
                              by_cases c32 : t222 = true
                              · subst c32
                                have H1 : (if (Int.tmod (wrap64 (t211 + t221)) 64) = 0 then (if t224 = true then (laws_FnNewer.j1 kj10 l0 l1 (!t223)) else (none)) else (none)) = some r := by rw [if_pos rfl] at H; exact H
                                clear H
                                have H := H1
                                clear H1
                                by_cases c33 : (Int.tmod (wrap64 (t211 + t221)) 64) = 0
                                · rw [if_pos c33] at H
                                  have c33b0 : ((Int.tmod (wrap64 (t211 + t221)) 64) == 0) = true := beq_iff_eq.mpr c33
                                  have c33b1 : ((Int.tmod (wrap64 (t211 + t221)) 64) != 0) = false := bne_eq_false_iff_eq.mpr c33
                                  clear c33
                                  by_cases c34 : t224 = true
                                  · subst c34
                                    have H1 : (laws_FnNewer.j1 kj10 l0 l1 (!t223)) = some r := by rw [if_pos rfl] at H; exact H
                                    clear H
                                    have H := H1
                                    clear H1
                                    as_aux_lemma =>
                                      have H' := Aside0.mk H
                                      clear H
                                      go_wp2
                                      go_meet
                                      case rel => exact ⟨_, (!t223), (by first | rfl | (simp; done) | (simp [*]; done)), H', ⟨by have := HJ10.out; first | omega | exact Nat.le_refl _⟩, ⟨by repeat (first | (with_reducible first | exact HB.out | apply below_alloc | apply pw_below_drewN | apply below_drew1) | exact HB.out)⟩⟩
                                  · replace c34 := Bool.eq_false_iff.mpr c34
                                    subst c34
                                    have H1 : (none) = some r := by rw [if_neg (show ¬ (false = true) by decide)] at H; exact H
                                    clear H
                                    have H := H1
                                    clear H1
                                    exact absurd H (by simp)
                                · rw [if_neg c33] at H
                                  exact absurd H (by simp)
                              · replace c32 := Bool.eq_false_iff.mpr c32
                                subst c32
                                have H1 : (none) = some r := by rw [if_neg (show ¬ (false = true) by decide)] at H; exact H
                                clear H
                                have H := H1
                                clear H1
                                exact absurd H (by simp)
                          · rw [if_neg c30] at H
                            have c30b0 : (t205 == t206) = false := beq_eq_false_iff_ne.mpr c30
                            have c30b1 : (t205 != t206) = true := bne_iff_ne.mpr c30
                            (first | rw [c30b0] | (simp only [i64_w, i32_w]; rw [c30b0]) | skip)
                            by_cases c35 : (false != (t211 == 32)) = true
                            · rw [if_pos c35] at H
                              exact absurd H (by simp)
                            · rw [if_neg c35] at H
                              have c35b0 : (false != (t211 == 32)) = false := by simpa using c35
                              (try (have c35b1 : decide (false = (t211 == 32)) = true := by simpa using c35))
                              (try (have c35b2 : (false == (t211 == 32)) = true := by simpa using c35))
                              clear c35
                              by_cases c36 : t222 = true
                              · subst c36
                                have H1 : (if (Int.tmod (wrap64 (t211 + t221)) 64) = 0 then (if t224 = true then (laws_FnNewer.j1 kj10 l0 l1 (!t223)) else (none)) else (none)) = some r := by rw [if_pos rfl] at H; exact H
                                clear H
                                have H := H1
                                clear H1
                                by_cases c37 : (Int.tmod (wrap64 (t211 + t221)) 64) = 0
                                · rw [if_pos c37] at H
                                  have c37b0 : ((Int.tmod (wrap64 (t211 + t221)) 64) == 0) = true := beq_iff_eq.mpr c37
                                  have c37b1 : ((Int.tmod (wrap64 (t211 + t221)) 64) != 0) = false := bne_eq_false_iff_eq.mpr c37
                                  clear c37
                                  by_cases c38 : t224 = true
                                  · subst c38
                                    have H1 : (laws_FnNewer.j1 kj10 l0 l1 (!t223)) = some r := by rw [if_pos rfl] at H; exact H
                                    clear H
                                    have H := H1
                                    clear H1
                                    as_aux_lemma =>
                                      have H' := Aside0.mk H
                                      clear H
                                      go_wp2
                                      go_meet
                                      case rel => exact ⟨_, (!t223), (by first | rfl | (simp; done) | (simp [*]; done)), H', ⟨by have := HJ10.out; first | omega | exact Nat.le_refl _⟩, ⟨by repeat (first | (with_reducible first | exact HB.out | apply below_alloc | apply pw_below_drewN | apply below_drew1) | exact HB.out)⟩⟩
                                  · replace c38 := Bool.eq_false_iff.mpr c38
                                    subst c38
                                    have H1 : (none) = some r := by rw [if_neg (show ¬ (false = true) by decide)] at H; exact H
                                    clear H
                                    have H := H1
                                    clear H1
                                    exact absurd H (by simp)
                                · rw [if_neg c37] at H
                                  exact absurd H (by simp)
                              · replace c36 := Bool.eq_false_iff.mpr c36
                                subst c36
                                have H1 : (none) = some r := by rw [if_neg (show ¬ (false = true) by decide)] at H; exact H
                                clear H
                                have H := H1
                                clear H1
                                exact absurd H (by simp)
                      · replace c28 := Bool.eq_false_iff.mpr c28
                        subst c28
                        have H1 : (if t205 = t206 then (if ((!t219) != true) = true then (none) else (if t222 = true then (if (Int.tmod (wrap64 (t211 + t221)) 64) = 0 then (if t224 = true then (laws_FnNewer.j1 kj10 l0 l1 (!t223)) else (none)) else (none)) else (none))) else (if ((!t219) != (t211 == 32)) = true then (none) else (if t222 = true then (if (Int.tmod (wrap64 (t211 + t221)) 64) = 0 then (if t224 = true then (laws_FnNewer.j1 kj10 l0 l1 (!t223)) else (none)) else (none)) else (none)))) = some r := by rw [if_neg (show ¬ (false = true) by decide)] at H; exact H
                        clear H
                        have H := H1
                        clear H1
                        by_cases c39 : t205 = t206
                        · rw [if_pos c39] at H
                          have c39b0 : (t205 == t206) = true := beq_iff_eq.mpr c39
                          have c39b1 : (t205 != t206) = false := bne_eq_false_iff_eq.mpr c39
                          clear c39
                          by_cases c40 : ((!t219) != true) = true
                          · rw [if_pos c40] at H
                            exact absurd H (by simp)
                          · rw [if_neg c40] at H
                            have c40b0 : ((!t219) != true) = false := by simpa using c40
                            (try (have c40b1 : decide ((!t219) = true) = true := by simpa using c40))
                            (try (have c40b2 : ((!t219) == true) = true := by simpa using c40))
                            (try (have c40b3 : (t219 = !(true)) = True := eq_true (by have h_ := c40; revert h_; cases t219 <;> simp)))
                            clear c40
                            by_cases c41 : t222 = true
                            · subst c41
                              have H1 : (if (Int.tmod (wrap64 (t211 + t221)) 64) = 0 then (if t224 = true then (laws_FnNewer.j1 kj10 l0 l1 (!t223)) else (none)) else (none)) = some r := by rw [if_pos rfl] at H; exact H
                              clear H
                              have H := H1
                              clear H1
                              by_cases c42 : (Int.tmod (wrap64 (t211 + t221)) 64) = 0
                              · rw [if_pos c42] at H
                                have c42b0 : ((Int.tmod (wrap64 (t211 + t221)) 64) == 0) = true := beq_iff_eq.mpr c42
                                have c42b1 : ((Int.tmod (wrap64 (t211 + t221)) 64) != 0) = false := bne_eq_false_iff_eq.mpr c42
                                clear c42
                                by_cases c43 : t224 = true
                                · subst c43
                                  have H1 : (laws_FnNewer.j1 kj10 l0 l1 (!t223)) = some r := by rw [if_pos rfl] at H; exact H
                                  clear H
                                  have H := H1
                                  clear H1
                                  as_aux_lemma =>
                                    have H' := Aside0.mk H
                                    clear H
                                    go_wp2
                                    go_meet
                                    case rel => exact ⟨_, (!t223), (by first | rfl | (simp; done) | (simp [*]; done)), H', ⟨by have := HJ10.out; first | omega | exact Nat.le_refl _⟩, ⟨by repeat (first | (with_reducible first | exact HB.out | apply below_alloc | apply pw_below_drewN | apply below_drew1) | exact HB.out)⟩⟩
                                · replace c43 := Bool.eq_false_iff.mpr c43
                                  subst c43
                                  have H1 : (none) = some r := by rw [if_neg (show ¬ (false = true) by decide)] at H; exact H
                                  clear H
                                  have H := H1
                                  clear H1
                                  exact absurd H (by simp)
                              · rw [if_neg c42] at H
                                exact absurd H (by simp)
                            · replace c41 := Bool.eq_false_iff.mpr c41
                              subst c41
                              have H1 : (none) = some r := by rw [if_neg (show ¬ (false = true) by decide)] at H; exact H
                              clear H
                              have H := H1
                              clear H1
                              exact absurd H (by simp)
                        · rw [if_neg c39] at H
                          have c39b0 : (t205 == t206) = false := beq_eq_false_iff_ne.mpr c39
                          have c39b1 : (t205 != t206) = true := bne_iff_ne.mpr c39
                          by_cases c44 : ((!t219) != (t211 == 32)) = true
                          · rw [if_pos c44] at H
                            exact absurd H (by simp)
                          · rw [if_neg c44] at H
                            have c44b0 : ((!t219) != (t211 == 32)) = false := by simpa using c44
                            (try (have c44b1 : decide ((!t219) = (t211 == 32)) = true := by simpa using c44))
                            (try (have c44b2 : ((!t219) == (t211 == 32)) = true := by simpa using c44))
                            (try (have c44b3 : (t219 = !((t211 == 32))) = True := eq_true (by have h_ := c44; revert h_; cases t219 <;> simp)))
                            clear c44
                            by_cases c45 : t222 = true
                            · subst c45
                              have H1 : (if (Int.tmod (wrap64 (t211 + t221)) 64) = 0 then (if t224 = true then (laws_FnNewer.j1 kj10 l0 l1 (!t223)) else (none)) else (none)) = some r := by rw [if_pos rfl] at H; exact H
                              clear H
                              have H := H1
                              clear H1
                              by_cases c46 : (Int.tmod (wrap64 (t211 + t221)) 64) = 0
                              · rw [if_pos c46] at H
                                have c46b0 : ((Int.tmod (wrap64 (t211 + t221)) 64) == 0) = true := beq_iff_eq.mpr c46
                                have c46b1 : ((Int.tmod (wrap64 (t211 + t221)) 64) != 0) = false := bne_eq_false_iff_eq.mpr c46
                                clear c46
                                by_cases c47 : t224 = true
                                · subst c47
                                  have H1 : (laws_FnNewer.j1 kj10 l0 l1 (!t223)) = some r := by rw [if_pos rfl] at H; exact H
                                  clear H
                                  have H := H1
                                  clear H1
                                  as_aux_lemma =>
                                    have H' := Aside0.mk H
                                    clear H
                                    go_wp2
                                    go_meet
                                    case rel => exact ⟨_, (!t223), (by first | rfl | (simp; done) | (simp [*]; done)), H', ⟨by have := HJ10.out; first | omega | exact Nat.le_refl _⟩, ⟨by repeat (first | (with_reducible first | exact HB.out | apply below_alloc | apply pw_below_drewN | apply below_drew1) | exact HB.out)⟩⟩
                                · replace c47 := Bool.eq_false_iff.mpr c47
                                  subst c47
                                  have H1 : (none) = some r := by rw [if_neg (show ¬ (false = true) by decide)] at H; exact H
                                  clear H
                                  have H := H1
                                  clear H1
                                  exact absurd H (by simp)
                              · rw [if_neg c46] at H
                                exact absurd H (by simp)
                            · replace c45 := Bool.eq_false_iff.mpr c45
                              subst c45
                              have H1 : (none) = some r := by rw [if_neg (show ¬ (false = true) by decide)] at H; exact H
                              clear H
                              have H := H1
                              clear H1
                              exact absurd H (by simp)
                    · replace c27 := Bool.eq_false_iff.mpr c27
                      subst c27
                      have H1 : (none) = some r := by rw [if_neg (show ¬ (false = true) by decide)] at H; exact H
                      clear H
                      have H := H1
                      clear H1
                      exact absurd H (by simp)
                  · replace c26 := Bool.eq_false_iff.mpr c26
                    subst c26
                    have H1 : (none) = some r := by rw [if_neg (show ¬ (false = true) by decide)] at H; exact H
                    clear H
                    have H := H1
                    clear H1
                    exact absurd H (by simp)
                · replace c25 := Bool.eq_false_iff.mpr c25
                  subst c25
                  have H1 : (none) = some r := by rw [if_neg (show ¬ (false = true) by decide)] at H; exact H
                  clear H
                  have H := H1
                  clear H1
                  exact absurd H (by simp)
              case rest =>
                clear HC24
                try clear c1
                try clear c2
                try clear p2
                try clear c3
                try clear c3b0
                try clear c4
                try clear p6
                try clear c11
                try clear c13
                try clear c13b0
                try clear c13b1
                try clear c13b2
                try clear c14
                try clear c14b0
                try clear c14b1
                try clear c14b2
                try clear c15
                try clear c15b0
                try clear c15b1
                try clear c15b2
                try clear c16
                try clear c16b0
                try clear c16b1
                try clear c17
                try clear c17b0
                try clear c17b1
                try clear c17b2
                try clear c18
                try clear c20
                try clear c25
                try clear c26
                try clear c27
                try clear c28
                try clear c29
                try clear c30
                try clear c30b0
                try clear c30b1
                try clear c31
                try clear c31b0
                try clear c31b1
                try clear c31b2
                try clear c32
                try clear c33
                try clear c33b0
                try clear c33b1
                try clear c34
                try clear c35
                try clear c35b0
                try clear c35b1
                try clear c35b2
                try clear c36
                try clear c37
                try clear c37b0
                try clear c37b1
                try clear c38
                try clear c39
                try clear c39b0
                try clear c39b1
                try clear c40
                try clear c40b0
                try clear c40b1
                try clear c40b2
                try clear c41
                try clear c42
                try clear c42b0
                try clear c42b1
                try clear c43
                try clear c44
                try clear c44b0
                try clear c44b1
                try clear c44b2
                try clear c45
                try clear c46
                try clear c46b0
                try clear c46b1
                try clear c47
                try clear p2
                try clear p6
                obtain ⟨kq, x178_23, rfl, HA, HJ23, HB⟩ := hcut
                cases kq with
                | zero => exact absurd HA.out (by simp [laws_FnNewer.j1])
                | succ kj23 =>
                  have H := HA.out
                  clear HA
                  simp only [laws_FnNewer.j1] at H
                  by_cases c48 : x178_23 = true
                  · subst c48
                    have H1 : (none) = some r := by rw [if_pos rfl] at H; exact H
                    clear H
                    have H := H1
                    clear H1
                    exact absurd H (by simp)
                  · replace c48 := Bool.eq_false_iff.mpr c48
                    subst c48
                    have H1 : (laws_FnNewer.j2 kj23 l0 l1) = some r := by rw [if_neg (show ¬ (false = true) by decide)] at H; exact H
                    clear H
                    have H := H1
                    clear H1
                    as_aux_lemma =>
                      have H' := Aside0.mk H
                      clear H
                      go_wp2
                      go_meet
                      case rel => exact ⟨_, H', ⟨by have := HJ10.out; have := HJ23.out; first | omega | exact Nat.le_refl _⟩, ⟨by repeat (first | (with_reducible first | exact HB.out | apply below_alloc | apply pw_below_drewN | apply below_drew1) | exact HB.out)⟩⟩
            · replace c20 := Bool.eq_false_iff.mpr c20
              subst c20
              have H1 : (laws_FnNewer.j2 kj10 l0 l1) = some r := by rw [if_neg (show ¬ (false = true) by decide)] at H; exact H
              clear H
              have H := H1
              clear H1
              as_aux_lemma =>
                have H' := Aside0.mk H
                clear H
                go_wp2
                go_meet
                case rel => exact ⟨_, H', ⟨by have := HJ10.out; first | omega | exact Nat.le_refl _⟩, ⟨by repeat (first | (with_reducible first | exact HB.out | apply below_alloc | apply pw_below_drewN | apply below_drew1) | exact HB.out)⟩⟩
          case rest =>
            clear HC19
            try clear c1
            try clear c2
            try clear p2
            try clear c3
            try clear c3b0
            try clear c4
            try clear p6
            try clear c11
            try clear c13
            try clear c13b0
            try clear c13b1
            try clear c13b2
            try clear c14
            try clear c14b0
            try clear c14b1
            try clear c14b2
            try clear c15
            try clear c15b0
            try clear c15b1
            try clear c15b2
            try clear c16
            try clear c16b0
            try clear c16b1
            try clear c17
            try clear c17b0
            try clear c17b1
            try clear c17b2
            try clear c18
            try clear c20
            try clear c25
            try clear c26
            try clear c27
            try clear c28
            try clear c29
            try clear c30
            try clear c30b0
            try clear c30b1
            try clear c31
            try clear c31b0
            try clear c31b1
            try clear c31b2
            try clear c32
            try clear c33
            try clear c33b0
            try clear c33b1
            try clear c34
            try clear c35
            try clear c35b0
            try clear c35b1
            try clear c35b2
            try clear c36
            try clear c37
            try clear c37b0
            try clear c37b1
            try clear c38
            try clear c39
            try clear c39b0
            try clear c39b1
            try clear c40
            try clear c40b0
            try clear c40b1
            try clear c40b2
            try clear c41
            try clear c42
            try clear c42b0
            try clear c42b1
            try clear c43
            try clear c44
            try clear c44b0
            try clear c44b1
            try clear c44b2
            try clear c45
            try clear c46
            try clear c46b0
            try clear c46b1
            try clear c47
            try clear c48
            try clear p2
            try clear p6
            obtain ⟨kq, HA, HJ18, HB⟩ := hcut
            cases kq with
            | zero => exact absurd HA.out (by simp [laws_FnNewer.j2])
            | succ kj18 =>
              have H := HA.out
              clear HA
              simp only [laws_FnNewer.j2] at H
              replace H := Option.bind_eq_some_iff.mp H
              obtain ⟨t225, A490, H⟩ := H
              replace H : ((impl_FitsRing.f kj18 t225).bind fun bt228 => ((spec_FitsRing.f kj18 t225).bind fun bt230 => (if (bt228.2 != bt230.2) = true then (none) else (laws_FnNewer.j3 kj18 l0 t225 (bt228.1 != bt230.1))))) = some r := H
              have A49 := Aside0.mk A490
              clear A490
              replace H := Option.bind_eq_some_iff.mp H
              obtain ⟨⟨t228, t229⟩, A500, H⟩ := H
              replace H : ((spec_FitsRing.f kj18 t225).bind fun bt230 => (if (t229 != bt230.2) = true then (none) else (laws_FnNewer.j3 kj18 l0 t225 (t228 != bt230.1)))) = some r := H
              have A50 := Aside0.mk A500
              clear A500
              replace H := Option.bind_eq_some_iff.mp H
              obtain ⟨⟨t230, t231⟩, A510, H⟩ := H
              replace H : (if (t229 != t231) = true then (none) else (laws_FnNewer.j3 kj18 l0 t225 (t228 != t230))) = some r := H
              have A51 := Aside0.mk A510
              clear A510
              have HC52 := Aside0.mk H
              clear H
              go_upto_region 21 with (first | ((with_reducible refine gate_callee (f := 38) rfl ?_); refine goesL_ (some 180) rfl rfl Try.func38 (by kernel_rfl) rfl #[.slice A1 l1.length c1] rfl (by (try simp only [List.map_toArray, List.map_cons, List.map_nil]); first | done | rfl | (simp only [List.length_drop, List.length_take]; rfl)) ?_; (with_reducible refine (spec_DrawFitsRing.calls kj18 _ _ l1 t225 _ ?side1 ?side2 A49.out).mono ?_); (case side1 => repeat (first | exact (Kd.C_below HR1.out HB.out) | (with_reducible refine Kd.C_alloc ?_ _) | (with_reducible refine Kd.C_drewN ?_ _) | (with_reducible refine Kd.C_drew ?_))); (case side2 => exact HC1.out); rintro e w53 ⟨v226, rfl, ho0, hb⟩; refine ⟨_, rfl, ?_⟩; have n0_ := Aside0.mk (Kd.R_lower ho0 (below_size (by repeat (first | (with_reducible first | exact HB.out | apply below_alloc | apply pw_below_drewN | apply below_drew1) | exact HB.out)))); have n1_ := Aside0.mk (below_step (by repeat (first | (with_reducible first | exact HB.out | apply below_alloc | apply pw_below_drewN | apply below_drew1) | exact HB.out)) hb); clear HB; have HO227 := n0_; have HB := n1_; clear n0_ n1_; (try clear hb); (try clear hb2); (try clear hk); (try clear hi); (try clear ho0); obtain ⟨Ao54, co54, eo54⟩ := Kd.R_slice HO227.out; subst eo54) | ((with_reducible refine gate_callee (f := 30) rfl ?_); refine goesL_ (some 183) rfl rfl Try.func30 (by kernel_rfl) rfl #[.slice Ao54 t225.length co54] rfl (by (try simp only [List.map_toArray, List.map_cons, List.map_nil]); first | done | rfl | (simp only [List.length_drop, List.length_take]; rfl)) ?_; (with_reducible refine (impl_FitsRing.calls kj18 _ _ t225 t228 t229 _ ?side1 ?side2 A50.out).mono ?_); (case side1 => repeat (first | exact (Kd.R_reads' HO227.out).2.2 | (with_reducible refine Kd.C_alloc ?_ _) | (with_reducible refine Kd.C_drewN ?_ _) | (with_reducible refine Kd.C_drew ?_))); (case side2 => exact (Kd.R_reads' HO227.out).2.1); rintro e w' ⟨rfl, ⟨nd, rfl⟩⟩; refine ⟨_, rfl, ?_⟩) | ((with_reducible refine gate_callee (f := 28) rfl ?_); refine goesL_ (some 188) rfl rfl Try.func28 (by kernel_rfl) rfl #[.slice Ao54 t225.length co54] rfl (by (try simp only [List.map_toArray, List.map_cons, List.map_nil]); first | done | rfl | (simp only [List.length_drop, List.length_take]; rfl)) ?_; (with_reducible refine (spec_FitsRing.calls kj18 _ _ t225 t230 t231 _ ?side1 ?side2 A51.out).mono ?_); (case side1 => repeat (first | exact (Kd.R_reads' HO227.out).2.2 | (with_reducible refine Kd.C_alloc ?_ _) | (with_reducible refine Kd.C_drewN ?_ _) | (with_reducible refine Kd.C_drew ?_))); (case side2 => exact (Kd.R_reads' HO227.out).2.1); rintro e w' ⟨rfl, ⟨nd, rfl⟩⟩; refine ⟨_, rfl, ?_⟩))
              (try simp only [Act.put, List.setIfInBounds_toArray, List.set_cons_zero, List.set_cons_succ])
              go_cut [198] (fun v198 wc => ∃ (kq : Nat) (x198_51 : Bool), v198 = .bool x198_51 ∧ Aside0 (laws_FnNewer.j3 kq l0 t225 x198_51 = some r) ∧ Aside0 (kq ≤ kj18) ∧ Aside0 (Kd.R (Kd.int .i64) 3 wc w.heap.size (fun _ => True) (.slice Ao54 t225.length co54) t225) ∧ Aside0 (Below w.heap.size w wc))
              case first =>
                have H := HC52.out
                clear HC52
                by_cases c55 : (t229 != t231) = true
                · rw [if_pos c55] at H
                  exact absurd H (by simp)
                · rw [if_neg c55] at H
                  have c55b0 : (t229 != t231) = false := by simpa using c55
                  (try (have c55b1 : decide (t229 = t231) = true := by simpa using c55))
                  (try (have c55b2 : (t229 == t231) = true := by simpa using c55))
                  clear c55
                  (first | rw [c55b0] | (simp only [i64_w, i32_w]; rw [c55b0]) | skip)
                  as_aux_lemma =>
                    have H' := Aside0.mk H
                    clear H
                    go_wp2
                    go_meet
                    case rel => exact ⟨_, ((t228 != t230)), (by first | rfl | (simp; done) | (simp [*]; done)), H', ⟨by have := HJ10.out; have := HJ18.out; first | omega | exact Nat.le_refl _⟩, ⟨by (with_reducible repeat (first | apply Kd.R_alloc | apply Kd.R_drewN | apply Kd.R_drew)); exact HO227.out⟩, ⟨by repeat (first | (with_reducible first | exact HB.out | apply below_alloc | apply pw_below_drewN | apply below_drew1) | exact HB.out)⟩⟩
              case rest =>
                clear HC52
                try clear c1
                try clear c2
                try clear p2
                try clear c3
                try clear c3b0
                try clear c4
                try clear c5
                try clear p6
                try clear c11
                try clear c13
                try clear c13b0
                try clear c13b1
                try clear c13b2
                try clear c14
                try clear c14b0
                try clear c14b1
                try clear c14b2
                try clear c15
                try clear c15b0
                try clear c15b1
                try clear c15b2
                try clear c16
                try clear c16b0
                try clear c16b1
                try clear c17
                try clear c17b0
                try clear c17b1
                try clear c17b2
                try clear c18
                try clear c20
                try clear c25
                try clear c26
                try clear c27
                try clear c28
                try clear c29
                try clear c30
                try clear c30b0
                try clear c30b1
                try clear c31
                try clear c31b0
                try clear c31b1
                try clear c31b2
                try clear c32
                try clear c33
                try clear c33b0
                try clear c33b1
                try clear c34
                try clear c35
                try clear c35b0
                try clear c35b1
                try clear c35b2
                try clear c36
                try clear c37
                try clear c37b0
                try clear c37b1
                try clear c38
                try clear c39
                try clear c39b0
                try clear c39b1
                try clear c40
                try clear c40b0
                try clear c40b1
                try clear c40b2
                try clear c41
                try clear c42
                try clear c42b0
                try clear c42b1
                try clear c43
                try clear c44
                try clear c44b0
                try clear c44b1
                try clear c44b2
                try clear c45
                try clear c46
                try clear c46b0
                try clear c46b1
                try clear c47
                try clear c48
                try clear c55
                try clear c55b0
                try clear c55b1
                try clear c55b2
                try clear p2
                try clear p6
                obtain ⟨kq, x198_51, rfl, HA, HJ51, HO_25, HB⟩ := hcut
                cases kq with
                | zero => exact absurd HA.out (by simp [laws_FnNewer.j3])
                | succ kj51 =>
                  have H := HA.out
                  clear HA
                  simp only [laws_FnNewer.j3] at H
                  by_cases c56 : x198_51 = true
                  · subst c56
                    have H1 : (none) = some r := by rw [if_pos rfl] at H; exact H
                    clear H
                    have H := H1
                    clear H1
                    exact absurd H (by simp)
                  · replace c56 := Bool.eq_false_iff.mpr c56
                    subst c56
                    have H1 : ((laws_numberOf.f kj51 l0).bind fun t232 => (laws_FnNewer.l0 kj51 (Int.tmod t232 64) ([] : List Int) t225 (t225.length : Int) 0)) = some r := by rw [if_neg (show ¬ (false = true) by decide)] at H; exact H
                    clear H
                    have H := H1
                    clear H1
                    replace H := Option.bind_eq_some_iff.mp H
                    obtain ⟨t232, A570, H⟩ := H
                    replace H : (laws_FnNewer.l0 kj51 (Int.tmod t232 64) ([] : List Int) t225 (t225.length : Int) 0) = some r := H
                    have A57 := Aside0.mk A570
                    clear A570
                    have H' := Aside0.mk H
                    clear H
                    go_wp2_with (first | ((with_reducible refine gate_callee (f := 39) rfl ?_); refine goesL_ (some 200) rfl rfl Try.func39 (by kernel_rfl) rfl #[.slice A0 l0.length c0] rfl (by (try simp only [List.map_toArray, List.map_cons, List.map_nil]); first | done | rfl | (simp only [List.length_drop, List.length_take]; rfl)) ?_; (with_reducible refine (laws_numberOf.calls kj51 _ _ l0 t232 _ ?side1 ?side2 A57.out).mono ?_); (case side1 => repeat (first | exact (Kd.C_below HR0.out HB.out) | (with_reducible refine Kd.C_alloc ?_ _) | (with_reducible refine Kd.C_drewN ?_ _) | (with_reducible refine Kd.C_drew ?_))); (case side2 => exact HC0.out); rintro e w' ⟨rfl, ⟨nd, rfl⟩⟩; refine ⟨_, rfl, ?_⟩))
                    go_loopg [31, 204] kj51 (fun kq v31 v204 w' => ∃ (x31_4 : List Int) (x204_4 : Int), v204 = .int .i64 x204_4 ∧ Aside0 (laws_FnNewer.l0 kq (Int.tmod t232 64) x31_4 t225 (t225.length : Int) x204_4 = some r) ∧ Aside0 (kq ≤ kj51) ∧ Aside0 (Kd.R (Kd.int .i64) 3 w' w.heap.size (fun k_ => some k_ ≠ ((.slice Ao54 t225.length co54) : Value).ownBlock) v31 x31_4) ∧ Aside0 (Kd.R (Kd.int .i64) 3 w' w.heap.size (fun k_ => some k_ ≠ (v31 : Value).ownBlock) (.slice Ao54 t225.length co54) t225) ∧ Aside0 (Below w.heap.size w w'))
                    case atStart => exact ⟨(([] : List Int)), (0), (by first | rfl | (simp; done) | (simp [*]; done)), H', ⟨Nat.le_refl _⟩, ⟨by first | exact Kd.R_nil _ _ _ _ _ | exact Kd.N_nil _ _ _ _ _ | exact Kd.V_nil _ _ _ _ _ | exact Kd.Q_nil _ _ _ _ _ | exact Kd.S_nil _ _ _ _ _⟩, ⟨by (with_reducible repeat (first | apply Kd.R_alloc | apply Kd.R_drewN | apply Kd.R_drew)); exact Kd.R_mono HO_25.out (fun _ hk => (by simp [Value.ownBlock]))⟩, ⟨by repeat (first | (with_reducible first | exact HB.out | apply below_alloc | apply pw_below_drewN | apply below_drew1) | exact HB.out)⟩⟩
                    case round =>
                      clear H'
                      try clear c1
                      try clear c2
                      try clear p2
                      try clear c3
                      try clear c3b0
                      try clear c4
                      try clear c5
                      try clear p6
                      try clear c11
                      try clear c13
                      try clear c13b0
                      try clear c13b1
                      try clear c13b2
                      try clear c14
                      try clear c14b0
                      try clear c14b1
                      try clear c14b2
                      try clear c15
                      try clear c15b0
                      try clear c15b1
                      try clear c15b2
                      try clear c16
                      try clear c16b0
                      try clear c16b1
                      try clear c17
                      try clear c17b0
                      try clear c17b1
                      try clear c17b2
                      try clear c18
                      try clear c20
                      try clear c25
                      try clear c26
                      try clear c27
                      try clear c28
                      try clear c29
                      try clear c30
                      try clear c30b0
                      try clear c30b1
                      try clear c31
                      try clear c31b0
                      try clear c31b1
                      try clear c31b2
                      try clear c32
                      try clear c33
                      try clear c33b0
                      try clear c33b1
                      try clear c34
                      try clear c35
                      try clear c35b0
                      try clear c35b1
                      try clear c35b2
                      try clear c36
                      try clear c37
                      try clear c37b0
                      try clear c37b1
                      try clear c38
                      try clear c39
                      try clear c39b0
                      try clear c39b1
                      try clear c40
                      try clear c40b0
                      try clear c40b1
                      try clear c40b2
                      try clear c41
                      try clear c42
                      try clear c42b0
                      try clear c42b1
                      try clear c43
                      try clear c44
                      try clear c44b0
                      try clear c44b1
                      try clear c44b2
                      try clear c45
                      try clear c46
                      try clear c46b0
                      try clear c46b1
                      try clear c47
                      try clear c48
                      try clear c55
                      try clear c55b0
                      try clear c55b1
                      try clear c55b2
                      try clear c56
                      try clear p2
                      try clear p6
                      obtain ⟨x31_4, x204_4, rfl, HA, HK4, HO_31, HO_202, HB⟩ := hrel
                      cases gk with
                      | zero => exact absurd HA.out (by simp [laws_FnNewer.l0])
                      | succ k4 =>
                        have H := HA.out
                        clear HA
                        simp only [laws_FnNewer.l0] at H
                        by_cases c58 : x204_4 < (t225.length : Int)
                        · rw [if_pos c58] at H
                          have c58b0 : decide (x204_4 < (t225.length : Int)) = true := decide_eq_true c58
                          clear c58
                          by_cases c59 : 0 ≤ x204_4
                          · rw [if_pos c59] at H
                            have c59b0 : decide (0 ≤ x204_4) = true := decide_eq_true c59
                            clear c59
                            by_cases c60 : x204_4 < (t225.length : Int)
                            · rw [if_pos c60] at H
                              have c60b0 : decide (x204_4 < (t225.length : Int)) = true := decide_eq_true c60
                              clear c60
                              by_cases c61 : (rd t225 x204_4) ≥ 0
                              · rw [if_pos c61] at H
                                have c61b0 : decide (0 ≤ (rd t225 x204_4)) = true := decide_eq_true c61
                                clear c61
                                by_cases c62 : x31_4.length < 17592186044416
                                · rw [if_pos c62] at H
                                  have LMc62 := Aside0.mk c62
                                  clear c62
                                  obtain ⟨y236, hy236⟩ : ∃ y_ : List Int, y_ = (x31_4 ++ [Int.tmod (wrap64 ((Int.tmod t232 64) + (Int.tmod (rd t225 x204_4) 32))) 64]) := ⟨_, rfl⟩
                                  replace H : (laws_FnNewer.l0 k4 (Int.tmod t232 64) y236 t225 (t225.length : Int) (wrap64 (x204_4 + 1))) = some r := by first | (rw [hy236]; with_reducible exact H) | (have H2_ := (Option.bind_some _ _).symm.trans H; rw [hy236]; with_reducible exact H2_) | (have H2_ := (Option.bind_some _ _).symm.trans H; with_reducible exact H2_) | with_reducible exact H | (rw [hy236]; exact H) | exact H
                                  have Ny236 := Aside0.mk hy236
                                  clear hy236
                                  as_aux_lemma =>
                                    have H' := Aside0.mk H
                                    clear H
                                    have p235 : 0 ≤ (x204_4 : Int) := of_decide_eq_true (by first | (with_reducible assumption) | assumption)
                                    have q235 : x204_4 < (t225.length : Int) := of_decide_eq_true (by first | (with_reducible assumption) | assumption)
                                    obtain ⟨ad235, e235, hx235_0⟩ := Kd.at_int (Kd.R_reads' HO_202.out).2.2 x204_4 p235 q235
                                    cases e235
                                    replace p235 := eq_true p235
                                    replace q235 := eq_true q235
                                    go_wp2_with (first | ((with_reducible refine gate_builtin (b := .append) (xs := #[.tmp 210, .tmp 216]) rfl ?_); at_builtin; refine Kd.R_append (Kd.int .i64) (w0 := w) w.heap.size rfl (.tmp 210) (.tmp 216) 42 3 (.int .i64 0) 8 rfl Try.underlying42 info3 rfl (by decide) (by omega) u31 x31_4 (Int.tmod (wrap64 ((Int.tmod t232 64) + (Int.tmod (rd t225 x204_4) 32))) 64) [.int .i64 (Int.tmod (wrap64 ((Int.tmod t232 64) + (Int.tmod (rd t225 x204_4) 32))) 64)] (fun k_ => some k_ ≠ (.slice (some ad235) t225.length co54 : Value).ownBlock) (fun _ => False) rfl rfl ?aP (fun _ hk => hk.elim) ?aF ?aO ?aB ?aS ?aL ?_; (case aP => exact rfl); (case aB => exact (by repeat (first | (with_reducible first | exact HB.out | apply below_alloc | apply pw_below_drewN | apply below_drew1) | exact HB.out))); (case aF => exact (fun k_ hk => Kd.fresh' (Kd.R_lt (by (with_reducible repeat (first | apply Kd.R_alloc | apply Kd.R_drewN | apply Kd.R_drew)); exact HO_202.out)) k_ hk)); (case aO => exact (by (with_reducible repeat (first | apply Kd.R_alloc | apply Kd.R_drewN | apply Kd.R_drew)); exact HO_31.out)); (case aS => exact (below_size (by repeat (first | (with_reducible first | exact HB.out | apply below_alloc | apply pw_below_drewN | apply below_drew1) | exact HB.out)))); (case aL => have := LMc62.out; omega); intro v237 w63 ho hb hg hat; rw [← Ny236.out] at ho; have n0_ := Aside0.mk (Kd.R_after (ok := (fun _ => True)) (by (with_reducible repeat (first | apply Kd.R_alloc | apply Kd.R_drewN | apply Kd.R_drew)); exact Kd.R_mono HO_202.out (fun _ hk => ⟨trivial, hk⟩)) hg hat); have n1_ := Aside0.mk (hb); have n2_ := Aside0.mk (ho); clear HO_202; clear HB; clear HO_31; have HO_202 := n0_; have HB := n1_; have HO238 := n2_; clear n0_ n1_ n2_; clear ho hb hg hat))
                                    go_roundg k4
                                    case measure => have := HJ10.out; have := HJ18.out; have := HJ51.out; have := HK4.out; omega
                                    case rel => exact ⟨(y236), (wrap64 (x204_4 + 1)), (by first | rfl | (simp; done) | (simp [*]; done)), H', ⟨by have := HJ10.out; have := HJ18.out; have := HJ51.out; have := HK4.out; omega⟩, ⟨by (with_reducible repeat (first | apply Kd.R_alloc | apply Kd.R_drewN | apply Kd.R_drew)); exact HO238.out⟩, ⟨by (with_reducible repeat (first | apply Kd.R_alloc | apply Kd.R_drewN | apply Kd.R_drew)); exact Kd.R_mono HO_202.out (fun _ hk => hk.2)⟩, ⟨by repeat (first | (with_reducible first | exact HB.out | apply below_alloc | apply pw_below_drewN | apply below_drew1) | exact HB.out)⟩⟩
                                · rw [if_neg c62] at H
                                  exact absurd H (by simp)
                              · rw [if_neg c61] at H
                                have c61b0 : decide (0 ≤ (rd t225 x204_4)) = false := decide_eq_false c61
                                clear c61
                                as_aux_lemma =>
                                  have H' := Aside0.mk H
                                  clear H
                                  have p235 : 0 ≤ (x204_4 : Int) := of_decide_eq_true (by first | (with_reducible assumption) | assumption)
                                  have q235 : x204_4 < (t225.length : Int) := of_decide_eq_true (by first | (with_reducible assumption) | assumption)
                                  obtain ⟨ad235, e235, hx235_0⟩ := Kd.at_int (Kd.R_reads' HO_202.out).2.2 x204_4 p235 q235
                                  cases e235
                                  replace p235 := eq_true p235
                                  replace q235 := eq_true q235
                                  go_wp2
                                  go_roundg k4
                                  case measure => have := HJ10.out; have := HJ18.out; have := HJ51.out; have := HK4.out; omega
                                  case rel => exact ⟨(x31_4), (wrap64 (x204_4 + 1)), (by first | rfl | (simp; done) | (simp [*]; done)), H', ⟨by have := HJ10.out; have := HJ18.out; have := HJ51.out; have := HK4.out; omega⟩, ⟨by (with_reducible repeat (first | apply Kd.R_alloc | apply Kd.R_drewN | apply Kd.R_drew)); exact HO_31.out⟩, ⟨by (with_reducible repeat (first | apply Kd.R_alloc | apply Kd.R_drewN | apply Kd.R_drew)); exact HO_202.out⟩, ⟨by repeat (first | (with_reducible first | exact HB.out | apply below_alloc | apply pw_below_drewN | apply below_drew1) | exact HB.out)⟩⟩
                            · rw [if_neg c60] at H
                              exact absurd H (by simp)
                          · rw [if_neg c59] at H
                            exact absurd H (by simp)
                        · rw [if_neg c58] at H
                          have c58b0 : decide (x204_4 < (t225.length : Int)) = false := decide_eq_false c58
                          clear c58
                          replace H := Option.bind_eq_some_iff.mp H
                          obtain ⟨⟨t233, t234⟩, A640, H⟩ := H
                          replace H : (if (x31_4.length : Int) > 40 then (some true) else (if t234 = true then (some t233) else (none))) = some r := H
                          have A64 := Aside0.mk A640
                          clear A640
                          by_cases c65 : (x31_4.length : Int) > 40
                          · rw [if_pos c65] at H
                            have c65b0 : decide (40 < (x31_4.length : Int)) = true := decide_eq_true c65
                            have c65b1 : decide (40 < x31_4.length) = true := decide_eq_true (by omega)
                            clear c65
                            as_aux_lemma =>
                              obtain rfl := Option.some.inj H
                              obtain ⟨Ao66, co66, eo66⟩ := Kd.R_slice HO_31.out
                              subst eo66
                              go_wp2_with (first | ((with_reducible refine gate_callee (f := 30) rfl ?_); refine goesL_ (some 221) rfl rfl Try.func30 (by kernel_rfl) rfl #[.slice Ao66 x31_4.length co66] rfl (by (try simp only [List.map_toArray, List.map_cons, List.map_nil]); first | done | rfl | (simp only [List.length_drop, List.length_take]; rfl)) ?_; (with_reducible refine (impl_FitsRing.calls k4 _ _ x31_4 t233 t234 _ ?side1 ?side2 A64.out).mono ?_); (case side1 => repeat (first | exact (Kd.R_reads' HO_31.out).2.2 | (with_reducible refine Kd.C_alloc ?_ _) | (with_reducible refine Kd.C_drewN ?_ _) | (with_reducible refine Kd.C_drew ?_))); (case side2 => exact (Kd.R_reads' HO_31.out).2.1); rintro e w' ⟨rfl, ⟨nd, rfl⟩⟩; refine ⟨_, rfl, ?_⟩))
                              go_ret
                              exact ⟨by first | rfl | (simp [errW_none, errW_some] <;> rfl) | (simp [*, errW_none, errW_some] <;> rfl), by repeat (first | (with_reducible first | exact HB.out | apply below_alloc | apply pw_below_drewN | apply below_drew1) | exact HB.out)⟩
                          · rw [if_neg c65] at H
                            have c65b0 : decide (40 < (x31_4.length : Int)) = false := decide_eq_false c65
                            have c65b1 : decide (40 < x31_4.length) = false := decide_eq_false (by omega)
                            clear c65
                            by_cases c67 : t234 = true
                            · subst c67
                              have H1 : (some t233) = some r := by rw [if_pos rfl] at H; exact H
                              clear H
                              have H := H1
                              clear H1
                              as_aux_lemma =>
                                obtain rfl := Option.some.inj H
                                obtain ⟨Ao68, co68, eo68⟩ := Kd.R_slice HO_31.out
                                subst eo68
                                go_wp2_with (first | ((with_reducible refine gate_callee (f := 30) rfl ?_); refine goesL_ (some 221) rfl rfl Try.func30 (by kernel_rfl) rfl #[.slice Ao68 x31_4.length co68] rfl (by (try simp only [List.map_toArray, List.map_cons, List.map_nil]); first | done | rfl | (simp only [List.length_drop, List.length_take]; rfl)) ?_; (with_reducible refine (impl_FitsRing.calls k4 _ _ x31_4 t233 true _ ?side1 ?side2 A64.out).mono ?_); (case side1 => repeat (first | exact (Kd.R_reads' HO_31.out).2.2 | (with_reducible refine Kd.C_alloc ?_ _) | (with_reducible refine Kd.C_drewN ?_ _) | (with_reducible refine Kd.C_drew ?_))); (case side2 => exact (Kd.R_reads' HO_31.out).2.1); rintro e w' ⟨rfl, ⟨nd, rfl⟩⟩; refine ⟨_, rfl, ?_⟩))
                                go_ret
                                exact ⟨by first | rfl | (simp [errW_none, errW_some] <;> rfl) | (simp [*, errW_none, errW_some] <;> rfl), by repeat (first | (with_reducible first | exact HB.out | apply below_alloc | apply pw_below_drewN | apply below_drew1) | exact HB.out)⟩
                            · replace c67 := Bool.eq_false_iff.mpr c67
                              subst c67
                              have H1 : (none) = some r := by rw [if_neg (show ¬ (false = true) by decide)] at H; exact H
                              clear H
                              have H := H1
                              clear H1
                              exact absurd H (by simp)

/-- THE ONE PURE STATEMENT of laws_FnNewer: yours. -/
def laws_FnNewer.Pure : Prop := ∀ (l0 : List Int) (l1 : List Int), l0.length ≤ maxLen → l0.length * 1 ≤ 140737488351232 → (∀ x ∈ l0, (Lit.int .u8 x).wf = true) → l1.length ≤ maxLen → l1.length * 1 ≤ 140737488351232 → (∀ x ∈ l1, (Lit.int .u8 x).wf = true) → ∃ k, laws_FnNewer.f k l0 l1 = some true
theorem laws_FnNewer.walk (P : laws_FnNewer.Pure) (a0 : Option Addr) (len0 cap0 : Nat) (z0 : List Int) (a1 : Option Addr) (len1 cap1 : Nat) (z1 : List Int) (w : World) (w0 : (a0 = none ∧ len0 = 0 ∧ cap0 = 0 ∧ z0 = []) ∨ ∃ x, a0 = some x ∧ len0 ≤ cap0 ∧ cap0 ≤ maxLen ∧ z0.length = cap0 ∧ (∀ i, i < z0.length → w.cell? (x.add i) = some (.int .u8 (z0.getD i 0))) ∧ ∀ n ∈ z0, (Lit.int .u8 n).wf = true) (y0 : len0 * 1 ≤ 140737488351232) (w1 : (a1 = none ∧ len1 = 0 ∧ cap1 = 0 ∧ z1 = []) ∨ ∃ x, a1 = some x ∧ len1 ≤ cap1 ∧ cap1 ≤ maxLen ∧ z1.length = cap1 ∧ (∀ i, i < z1.length → w.cell? (x.add i) = some (.int .u8 (z1.getD i 0))) ∧ ∀ n ∈ z1, (Lit.int .u8 n).wf = true) (y1 : len1 * 1 ≤ 140737488351232) :
    Calls Try.prog 11 #[.slice a0 len0 cap0, .slice a1 len1 cap1] w fun e w' => e = .returned (.bool true) ∧ Below w.heap.size w w' := by
  obtain ⟨l0, rfl, hr0, hm0, hw0, hc0⟩ := ReadsInt.ofRowC w0
  obtain ⟨l1, rfl, hr1, hm1, hw1, hc1⟩ := ReadsInt.ofRowC w1
  obtain ⟨k, h⟩ := P l0 l1 hm0 y0 hw0 hm1 y1 hw1
  refine (laws_FnNewer.calls k _ _ l0 _ _ l1 true w (Kd.C_of_reads (d := (0 : Int)) (h1 := fun _ => rfl) hr0) hc0 (Kd.C_of_reads (d := (0 : Int)) (h1 := fun _ => rfl) hr1) hc1 h).mono ?_
  rintro e w' ⟨rfl, hd⟩
  exact ⟨rfl, hd⟩

end Go.Proofs.Ytaihdogejmdjnaa.PFnNewer
