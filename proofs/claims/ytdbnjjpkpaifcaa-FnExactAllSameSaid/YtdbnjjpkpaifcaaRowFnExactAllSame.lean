/- The law FnExactAllSame answers true for every input that reads as data, and leaves its arguments as they were. No condition beyond the row's own. -/
import Derived.Test.YtdbnjjpkpaifcaaRows
import Derived.Test.YtdbnjjpkpaifcaaSFnExactAllSame
import Derived.Test.YtdbnjjpkpaifcaaPureFnExactAllSame
import Derived.WalkKit
import Derived.ProofKit
import Derived.OpenShut
import Derived.ShutString
import Derived.ChangeOld
import Derived.Below
import Derived.SizedLaws
namespace Go.Proofs.Ytdbnjjpkpaifcaa.fnExactAllSame
open Go.ChangeShapes Go.WideShapes Go.ChangeAt Go.RowKit Go.Proofs.YtdbnjjpkpaifcaaW.PrintWords Go.Proofs.Ytdbnjjpkpaifcaa.Open Go.Proofs.Ytdbnjjpkpaifcaa.PFnExactAllSame
open Go.ChangeMaps (open_string shut_string)
set_option linter.unusedVariables false
theorem own : ownKnob Try.prog.godebug = none := by kernel_rfl
theorem laidOut : laidOutB Try.prog = true := by kernel_rfl
set_option maxRecDepth 100000 in
theorem lifted (os : Os) (started : os.Started) (H : Type) (enc : TypeId × Value → H) :
    ReturnsInHanded {} Try.checked os 5 .any (Rows.fnExactAllSameSpec.pre6 enc Try.prog Try.f5 Rows.fnExactAllSameRow.domain false) (Rows.fnExactAllSameSpec.post enc Try.prog Try.f5 false true false false) := by
  refine returnsInHanded_of_change_sized (C := Try.checked) own started (by kernel_rfl) Try.func5
    (ChangeSpec.witness6 (enc := enc) (C := Try.checked) false ⟨#[], #[.agg #[.slice none 0 0, .slice none 0 0, .slice none 0 0, .slice none 0 0]], []⟩ 8 (by kernel_rfl) (by kernel_rfl) (by kernel_rfl) (by kernel_rfl)) ?_
  intro W base args ds gs before hval0 hW hcnd hsz0 _
  have hsz : (DataW.weightsEach Try.prog (Try.f5.params.toList ++ Rows.fnExactAllSameSpec.plain.varTypes Try.prog) (ds ++ gs)).all (· ≤ reachBytes) = true := hsz0
  have hval : ∀ (j : Nat) t v, Try.f5.params[j]? = some t → args[j]? = some v → Value.okWide Try.prog W .any base t v := hval0
  have hW' := hW
  obtain ⟨p, q, hA0, hV, rfl, hfz, hnd⟩ := hW
  have hA : DataW.TrodAll enc Try.prog W 0 (fun _ => true) true Try.f5.params.toList args.toList ds p := hA0
  rw [Try.params5] at hA hval hsz
  obtain ⟨v0, vs0, d0, ds0, p0, q0, hargs, rfl, rfl, h0, r0⟩ := trodAll_cons hA
  obtain ⟨rfl, rfl, rfl⟩ := trodAll_nil r0
  obtain rfl : args = #[v0] := by cases args; simp_all
  obtain ⟨rfl, rfl⟩ := trodVars_none hV
  have k0 := h0
  have lt0 : ∀ x ∈ p0, x.block < W.heap.size := by obtain ⟨m, hm⟩ := k0; exact DataW.trod_lt m _ _ _ hm
  obtain ⟨x0, hK0, hB0⟩ : ∃ x, Kd.K (Kd.pair (Kd.slice 46 (Kd.slice 3 (Kd.int .i64))) (Kd.pair (Kd.slice 46 (Kd.slice 3 (Kd.int .i64))) (Kd.pair (Kd.slice 46 (Kd.slice 3 (Kd.int .i64))) (Kd.slice 78 k78)))) W x v0.cells.toList ∧ (x.1.length * 24 ≤ 140737488351232 ∧ ∀ y ∈ x.1, (y.length * 8 ≤ 140737488351232 ∧ ∀ z ∈ y, (Lit.int .i64 z).wf = true)) ∧ (x.2.1.length * 24 ≤ 140737488351232 ∧ ∀ y ∈ x.2.1, (y.length * 8 ≤ 140737488351232 ∧ ∀ z ∈ y, (Lit.int .i64 z).wf = true)) ∧ (x.2.2.1.length * 24 ≤ 140737488351232 ∧ ∀ y ∈ x.2.2.1, (y.length * 8 ≤ 140737488351232 ∧ ∀ z ∈ y, (Lit.int .i64 z).wf = true)) ∧ (x.2.2.2.length * 40 ≤ 140737488351232 ∧ ∀ y ∈ x.2.2.2, b78 y) := by
    obtain ⟨fuel, hf⟩ := h0
    exact opens_p0 W H enc fuel _ _ hf (weights_at hsz (j := 0) (t := 36) rfl rfl)
  obtain ⟨cs0, rfl, _⟩ := okWide_struct Try.underlying36 (hval 0 36 v0 rfl rfl)
  obtain ⟨l0_0, l0_1, l0_2, l0_3⟩ := x0
  obtain ⟨_, _, e0, ⟨A0_0, c0_0, rfl, hc0_0, hr0_0⟩, ⟨_, _, rfl, ⟨A0_1, c0_1, rfl, hc0_1, hr0_1⟩, ⟨_, _, rfl, ⟨A0_2, c0_2, rfl, hc0_2, hr0_2⟩, ⟨A0_3, c0_3, rfl, hc0_3, hr0_3⟩⟩⟩⟩ := hK0
  obtain rfl : cs0 = #[.slice A0_0 l0_0.length c0_0, .slice A0_1 l0_1.length c0_1, .slice A0_2 l0_2.length c0_2, .slice A0_3 l0_3.length c0_3] := Array.ext' (by simpa [Value.cells] using e0)
  obtain ⟨w0_0, w0_1, w0_2, w0_3⟩ := hB0
  clear hA0 hval0 hsz0 hsz
  obtain ⟨k, hp⟩ := Pure.FnExactAllSame l0_0 l0_1 l0_2 l0_3 w0_0 w0_1 w0_2 w0_3
  refine (laws_FnExactAllSame.calls k A0_0 c0_0 l0_0 A0_1 c0_1 l0_1 A0_2 c0_2 l0_2 A0_3 c0_3 l0_3 true W hr0_0 hc0_0 hr0_1 hc0_1 hr0_2 hc0_2 hr0_3 hc0_3 hp).mono fun e W' ⟨he, bel⟩ => ?_
  subst he
  exact ⟨_, rfl, _, _, _, [], _, [], hW', trodAll_mk1 (shut_bool Try.underlying4 _), (trodAll_cons_mk (Below.trod laidOut (by kernel_rfl) (of_decide_eq_true (by kernel_rfl)) k0 bel lt0) trodAll_mk0), rfl, bel.frame _, fun h => by cases h⟩
theorem over : Rows.fnExactAllSameRow.holds Try.pinned (OpenSpec.ofChange Rows.fnExactAllSameSpec) :=
  OpenClaim.holds_of_wide 5 Try.f5 rfl rfl rfl rfl rfl rfl rfl ⟨rfl, rfl, rfl, rfl, rfl⟩ rfl rfl rfl rfl rfl (by kernel_rfl) Try.func5 (by kernel_rfl)
    (of_decide_eq_true (by kernel_rfl)) (by unfold Func.isWrapper; first | (rw [if_pos (by decide +kernel)]; kernel_rfl) | (rw [if_neg (by decide +kernel)]; exact ⟨rfl, rfl⟩))
    (fun os started H enc _ => lifted os started H enc)
theorem proved : Rows.FnExactAllSameSaid := over
#print axioms proved
end Go.Proofs.Ytdbnjjpkpaifcaa.fnExactAllSame
namespace Go.Proofs.Ytdbnjjpkpaifcaa
/-- The row, under a short name, for the claim. -/
theorem fnExactAllSame_holds : Rows.FnExactAllSameSaid := fnExactAllSame.proved
end Go.Proofs.Ytdbnjjpkpaifcaa
