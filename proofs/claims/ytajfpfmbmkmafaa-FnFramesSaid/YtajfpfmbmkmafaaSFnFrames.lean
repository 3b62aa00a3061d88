/- The pure statement of the law FnFrames, and what its arguments read as. No condition. -/
import Derived.Test.YtajfpfmbmkmafaaPFnFramesx13
import Derived.Test.YtajfpfmbmkmafaaPFnFramesx0
import Derived.Test.YtajfpfmbmkmafaaOpen
import Derived.KernelRfl
namespace Go.Proofs.Ytajfpfmbmkmafaa.PFnFrames
open Go.RowKit Go.Proofs.YtajfpfmbmkmafaaW.PrintWords Go.Proofs.Ytajfpfmbmkmafaa.Open
set_option linter.unusedVariables false
/-- The pure statement. -/
def laws_FnFrames.PureS : Prop := ∀ (l0 : List Int) (l1 : List Int), (l0.length * 1 ≤ 140737488351232 ∧ ∀ y ∈ l0, (Lit.int .u8 y).wf = true) → (l1.length * 1 ≤ 140737488351232 ∧ ∀ y ∈ l1, (Lit.int .u8 y).wf = true) → ∃ k, laws_FnFrames.f k l0 l1 = some true
theorem opens_p0 (W : World) : Opens Try.prog W 56 (Kd.slice 5 (Kd.int .u8)) (fun a => (a.length * 1 ≤ 140737488351232 ∧ ∀ y ∈ a, (Lit.int .u8 y).wf = true)) :=
  (opens_slice 1 Try.underlying56 (by kernel_rfl) (by kernel_rfl) (opens_int Try.underlying5))
theorem opens_p1 (W : World) : Opens Try.prog W 56 (Kd.slice 5 (Kd.int .u8)) (fun a => (a.length * 1 ≤ 140737488351232 ∧ ∀ y ∈ a, (Lit.int .u8 y).wf = true)) :=
  (opens_slice 1 Try.underlying56 (by kernel_rfl) (by kernel_rfl) (opens_int Try.underlying5))
end Go.Proofs.Ytajfpfmbmkmafaa.PFnFrames
