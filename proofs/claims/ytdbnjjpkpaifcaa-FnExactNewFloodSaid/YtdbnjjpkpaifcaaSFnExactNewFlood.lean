/- The pure statement of the law FnExactNewFlood, and what its arguments read as. No condition. -/
import Derived.Test.YtdbnjjpkpaifcaaPFnExactNewFloodx9
import Derived.Test.YtdbnjjpkpaifcaaPFnExactNewFloodx0
import Derived.Test.YtdbnjjpkpaifcaaOpen
import Derived.KernelRfl
namespace Go.Proofs.Ytdbnjjpkpaifcaa.PFnExactNewFlood
open Go.RowKit Go.Proofs.YtdbnjjpkpaifcaaW.PrintWords Go.Proofs.Ytdbnjjpkpaifcaa.Open
set_option linter.unusedVariables false
/-- The pure statement. -/
def laws_FnExactNewFlood.PureS : Prop := ∀ (a0 : Int) (l1 : List (List Int)), (Lit.int .i64 a0).wf = true → (l1.length * 24 ≤ 140737488351232 ∧ ∀ y ∈ l1, (y.length * 8 ≤ 140737488351232 ∧ ∀ z ∈ y, (Lit.int .i64 z).wf = true)) → ∃ k, laws_FnExactNewFlood.f k a0 l1 = some true
theorem opens_p1 (W : World) : Opens Try.prog W 22 (Kd.slice 46 (Kd.slice 3 (Kd.int .i64))) (fun a => (a.length * 24 ≤ 140737488351232 ∧ ∀ y ∈ a, (y.length * 8 ≤ 140737488351232 ∧ ∀ z ∈ y, (Lit.int .i64 z).wf = true))) :=
  (opens_slice 24 Try.underlying22 (by kernel_rfl) (by kernel_rfl) (opens_slice 8 Try.underlying46 (by kernel_rfl) (by kernel_rfl) (opens_int Try.underlying3)))
end Go.Proofs.Ytdbnjjpkpaifcaa.PFnExactNewFlood
