/- The pure statement of the law FnExactPutNums, and what its arguments read as. No condition. -/
import Derived.Test.YtajfpfmbmkmafaaPFnExactPutNumsx2
import Derived.Test.YtajfpfmbmkmafaaPFnExactPutNumsx0
import Derived.Test.YtajfpfmbmkmafaaOpen
import Derived.KernelRfl
namespace Go.Proofs.Ytajfpfmbmkmafaa.PFnExactPutNums
open Go.RowKit Go.Proofs.YtajfpfmbmkmafaaW.PrintWords Go.Proofs.Ytajfpfmbmkmafaa.Open
set_option linter.unusedVariables false
/-- The pure statement. -/
def laws_FnExactPutNums.PureS : Prop := ∀ (l0 : List Int), (l0.length * 8 ≤ 140737488351232 ∧ ∀ y ∈ l0, (Lit.int .i64 y).wf = true) → ∃ k, laws_FnExactPutNums.f k l0 = some true
theorem opens_p0 (W : World) : Opens Try.prog W 25 (Kd.slice 3 (Kd.int .i64)) (fun a => (a.length * 8 ≤ 140737488351232 ∧ ∀ y ∈ a, (Lit.int .i64 y).wf = true)) :=
  (opens_slice 8 Try.underlying25 (by kernel_rfl) (by kernel_rfl) (opens_int Try.underlying3))
end Go.Proofs.Ytajfpfmbmkmafaa.PFnExactPutNums
