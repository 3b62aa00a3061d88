/- The pure statement of the law FnExactGoodPart, and what its arguments read as. No condition. -/
import Derived.Test.YtajfpfmbmkmafaaPFnExactGoodPartx3
import Derived.Test.YtajfpfmbmkmafaaPFnExactGoodPartx0
import Derived.Test.YtajfpfmbmkmafaaOpen
import Derived.KernelRfl
namespace Go.Proofs.Ytajfpfmbmkmafaa.PFnExactGoodPart
open Go.RowKit Go.Proofs.YtajfpfmbmkmafaaW.PrintWords Go.Proofs.Ytajfpfmbmkmafaa.Open
set_option linter.unusedVariables false
/-- The pure statement. -/
def laws_FnExactGoodPart.PureS : Prop := ∀ (a0_0 : Int) (a0_1 : ByteArray) (l0_2 : List Int), (Lit.int .i64 a0_0).wf = true → a0_1.size ≤ 140737488351232 → (l0_2.length * 8 ≤ 140737488351232 ∧ ∀ y ∈ l0_2, (Lit.int .i64 y).wf = true) → ∃ k, laws_FnExactGoodPart.f k a0_0 a0_1 l0_2 = some true
theorem opens_p0 (W : World) : Opens Try.prog W 35 (Kd.pair (Kd.int .i64) (Kd.pair Kd.string (Kd.slice 3 (Kd.int .i64)))) (fun a => (Lit.int .i64 a.1).wf = true ∧ a.2.1.size ≤ 140737488351232 ∧ (a.2.2.length * 8 ≤ 140737488351232 ∧ ∀ y ∈ a.2.2, (Lit.int .i64 y).wf = true)) :=
  opens_struct Try.underlying35 (by kernel_rfl) (opensF_cons (opens_int Try.underlying3) rfl (by kernel_rfl) (opensF_cons (opens_string Try.underlying9) rfl (by kernel_rfl) (opensF_one (opens_slice 8 Try.underlying25 (by kernel_rfl) (by kernel_rfl) (opens_int Try.underlying3)) rfl (by kernel_rfl)) rfl) rfl)
end Go.Proofs.Ytajfpfmbmkmafaa.PFnExactGoodPart
