/- The pure statement of the law FnExactWithoutEdge, and what its arguments read as. No condition. -/
import Derived.Test.YtgcondmgpcaahaaPFnExactWithoutEdgex5
import Derived.Test.YtgcondmgpcaahaaPFnExactWithoutEdgex0
import Derived.Test.YtgcondmgpcaahaaOpen
import Derived.KernelRfl
namespace Go.Proofs.Ytgcondmgpcaahaa.PFnExactWithoutEdge
open Go.RowKit Go.Proofs.YtgcondmgpcaahaaW.PrintWords Go.Proofs.Ytgcondmgpcaahaa.Open
set_option linter.unusedVariables false
def b85 (x : S85) : Prop := (Lit.int .i64 x.f0).wf = true ∧ (Lit.int .i64 x.f1).wf = true ∧ (Lit.int .i64 x.f2).wf = true
theorem opens_85 (W : World) : Opens Try.prog W 85 k85 b85 :=
  opens_iso (f := fun x : S85 => (x.f0, x.f1, x.f2)) (opens_struct Try.underlying85 (by kernel_rfl) (opensF_cons (opens_int Try.underlying3) rfl (by kernel_rfl) (opensF_cons (opens_int Try.underlying3) rfl (by kernel_rfl) (opensF_one (opens_int Try.underlying3) rfl (by kernel_rfl)) rfl) rfl)) (fun a => ⟨a.1, a.2.1, a.2.2⟩) (fun _ => rfl) (fun _ h => h)
/-- The pure statement. -/
def laws_FnExactWithoutEdge.PureS : Prop := ∀ (a0 : Int) (l1 : List (S85)) (a2 : Int), (Lit.int .i64 a0).wf = true → (l1.length * 24 ≤ 140737488351232 ∧ ∀ y ∈ l1, b85 y) → (Lit.int .i64 a2).wf = true → ∃ k, laws_FnExactWithoutEdge.f k a0 l1 a2 = some true
theorem opens_p1 (W : World) : Opens Try.prog W 51 (Kd.slice 85 k85) (fun a => (a.length * 24 ≤ 140737488351232 ∧ ∀ y ∈ a, b85 y)) :=
  (opens_slice 24 Try.underlying51 (by kernel_rfl) (by kernel_rfl) (opens_85 W))
end Go.Proofs.Ytgcondmgpcaahaa.PFnExactWithoutEdge
