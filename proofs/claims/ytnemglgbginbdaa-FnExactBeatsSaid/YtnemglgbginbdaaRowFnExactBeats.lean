/- The law FnExactBeats answers true for every input that reads as data, and leaves its arguments as they were. No condition beyond the row's own. -/
import Derived.Test.YtnemglgbginbdaaRows
import Derived.Test.YtnemglgbginbdaaSFnExactBeats
import Derived.Test.YtnemglgbginbdaaPureFnExactBeats
import Derived.WalkKit
import Derived.ProofKit
import Derived.OpenShut
import Derived.ShutString
import Derived.ChangeOld
import Derived.Below
import Derived.SizedLaws
namespace Go.Proofs.Ytnemglgbginbdaa.fnExactBeats
open Go.ChangeShapes Go.WideShapes Go.ChangeAt Go.RowKit Go.Proofs.YtnemglgbginbdaaW.PrintWords Go.Proofs.Ytnemglgbginbdaa.Open Go.Proofs.Ytnemglgbginbdaa.PFnExactBeats
open Go.ChangeMaps (open_string shut_string)
set_option linter.unusedVariables false
theorem own : ownKnob Try.prog.godebug = none := by kernel_rfl
theorem laidOut : laidOutB Try.prog = true := by kernel_rfl
set_option maxRecDepth 100000 in
theorem lifted (os : Os) (started : os.Started) (H : Type) (enc : TypeId × Value → H) :
    ReturnsInHanded {} Try.checked os 7 .any (Rows.fnExactBeatsSpec.pre6 enc Try.prog Try.f7 Rows.fnExactBeatsRow.domain false) (Rows.fnExactBeatsSpec.post enc Try.prog Try.f7 false true false false) := by
  refine returnsInHanded_of_change_sized (C := Try.checked) own started (by kernel_rfl) Try.func7
    (ChangeSpec.witness6 (enc := enc) (C := Try.checked) false ⟨#[], #[.agg #[.int .i64 0, .int .i64 0, .bool false], .agg #[.int .i64 0, .int .i64 0, .bool false]], []⟩ 8 (by kernel_rfl) (by kernel_rfl) (by kernel_rfl) (by kernel_rfl)) ?_
  intro W base args ds gs before hval0 hW hcnd hsz0 _
  have hsz : (DataW.weightsEach Try.prog (Try.f7.params.toList ++ Rows.fnExactBeatsSpec.plain.varTypes Try.prog) (ds ++ gs)).all (· ≤ reachBytes) = true := hsz0
  have hval : ∀ (j : Nat) t v, Try.f7.params[j]? = some t → args[j]? = some v → Value.okWide Try.prog W .any base t v := hval0
  have hW' := hW
  obtain ⟨p, q, hA0, hV, rfl, hfz, hnd⟩ := hW
  have hA : DataW.TrodAll enc Try.prog W 0 (fun _ => true) true Try.f7.params.toList args.toList ds p := hA0
  rw [Try.params7] at hA hval hsz
  obtain ⟨v0, vs0, d0, ds0, p0, q0, hargs, rfl, rfl, h0, r0⟩ := trodAll_cons hA
  obtain ⟨v1, vs1, d1, ds1, p1, q1, rfl, rfl, rfl, h1, r1⟩ := trodAll_cons r0
  obtain ⟨rfl, rfl, rfl⟩ := trodAll_nil r1
  obtain rfl : args = #[v0, v1] := by cases args; simp_all
  obtain ⟨rfl, rfl⟩ := trodVars_none hV
  have k0 := h0
  have lt0 : ∀ x ∈ p0, x.block < W.heap.size := by obtain ⟨m, hm⟩ := k0; exact DataW.trod_lt m _ _ _ hm
  obtain ⟨x0, hK0, hB0⟩ : ∃ x, Kd.K (Kd.pair (Kd.int .i64) (Kd.pair (Kd.int .i64) Kd.bool)) W x v0.cells.toList ∧ (Lit.int .i64 x.1).wf = true ∧ (Lit.int .i64 x.2.1).wf = true ∧ True := by
    obtain ⟨fuel, hf⟩ := h0
    exact opens_p0 W H enc fuel _ _ hf (weights_at hsz (j := 0) (t := 44) rfl rfl)
  obtain ⟨cs0, rfl, _⟩ := okWide_struct Try.underlying44 (hval 0 44 v0 rfl rfl)
  obtain ⟨a0_0, a0_1, a0_2⟩ := x0
  obtain ⟨_, _, e0, rfl, ⟨_, _, rfl, rfl, rfl⟩⟩ := hK0
  obtain rfl : cs0 = #[.int .i64 a0_0, .int .i64 a0_1, .bool a0_2] := Array.ext' (by simpa [Value.cells] using e0)
  obtain ⟨w0_0, w0_1, w0_2⟩ := hB0
  have k1 := h1
  have lt1 : ∀ x ∈ p1, x.block < W.heap.size := by obtain ⟨m, hm⟩ := k1; exact DataW.trod_lt m _ _ _ hm
  obtain ⟨x1, hK1, hB1⟩ : ∃ x, Kd.K (Kd.pair (Kd.int .i64) (Kd.pair (Kd.int .i64) Kd.bool)) W x v1.cells.toList ∧ (Lit.int .i64 x.1).wf = true ∧ (Lit.int .i64 x.2.1).wf = true ∧ True := by
    obtain ⟨fuel, hf⟩ := h1
    exact opens_p1 W H enc fuel _ _ hf (weights_at hsz (j := 1) (t := 44) rfl rfl)
  obtain ⟨cs1, rfl, _⟩ := okWide_struct Try.underlying44 (hval 1 44 v1 rfl rfl)
  obtain ⟨a1_0, a1_1, a1_2⟩ := x1
  obtain ⟨_, _, e1, rfl, ⟨_, _, rfl, rfl, rfl⟩⟩ := hK1
  obtain rfl : cs1 = #[.int .i64 a1_0, .int .i64 a1_1, .bool a1_2] := Array.ext' (by simpa [Value.cells] using e1)
  obtain ⟨w1_0, w1_1, w1_2⟩ := hB1
  clear hA0 hval0 hsz0 hsz
  have hp := Pure.FnExactBeats a0_0 a0_1 a0_2 a1_0 a1_1 a1_2 w0_0 w0_1 w1_0 w1_1
  refine (laws_FnExactBeats.calls a0_0 a0_1 a0_2 a1_0 a1_1 a1_2 true W  hp).mono fun e W' ⟨he, bel⟩ => ?_
  subst he
  exact ⟨_, rfl, _, _, _, [], _, [], hW', trodAll_mk1 (shut_bool Try.underlying4 _), (trodAll_cons_mk (Below.trod laidOut (by kernel_rfl) (of_decide_eq_true (by kernel_rfl)) k0 bel lt0) (trodAll_cons_mk (Below.trod laidOut (by kernel_rfl) (of_decide_eq_true (by kernel_rfl)) k1 bel lt1) trodAll_mk0)), rfl, bel.frame _, fun h => by cases h⟩
theorem over : Rows.fnExactBeatsRow.holds Try.pinned (OpenSpec.ofChange Rows.fnExactBeatsSpec) :=
  OpenClaim.holds_of_wide 7 Try.f7 rfl rfl rfl rfl rfl rfl rfl ⟨rfl, rfl, rfl, rfl, rfl⟩ rfl rfl rfl rfl rfl (by kernel_rfl) Try.func7 (by kernel_rfl)
    (of_decide_eq_true (by kernel_rfl)) (by unfold Func.isWrapper; first | (rw [if_pos (by decide +kernel)]; kernel_rfl) | (rw [if_neg (by decide +kernel)]; exact ⟨rfl, rfl⟩))
    (fun os started H enc _ => lifted os started H enc)
theorem proved : Rows.FnExactBeatsSaid := over
#print axioms proved
end Go.Proofs.Ytnemglgbginbdaa.fnExactBeats
namespace Go.Proofs.Ytnemglgbginbdaa
/-- The row, under a short name, for the claim. -/
theorem fnExactBeats_holds : Rows.FnExactBeatsSaid := fnExactBeats.proved
end Go.Proofs.Ytnemglgbginbdaa
