/- The pure statement of the law FnHaves, and what its arguments read as. No condition. -/
import Derived.Test.YtpcimkpklmemnaaPFnHavesx9
import Derived.Test.YtpcimkpklmemnaaPFnHavesx0
import Derived.Test.YtpcimkpklmemnaaOpen
import Derived.KernelRfl
namespace Go.Proofs.Ytpcimkpklmemnaa.PFnHaves
open Go.RowKit Go.Proofs.YtpcimkpklmemnaaW.PrintWords Go.Proofs.Ytpcimkpklmemnaa.Open
set_option linter.unusedVariables false
/-- The pure statement. -/
def laws_FnHaves.PureS : Prop := ∀ (l0 : List Int) (l1 : List Int), (l0.length * 1 ≤ 140737488351232 ∧ ∀ y ∈ l0, (Lit.int .u8 y).wf = true) → (l1.length * 1 ≤ 140737488351232 ∧ ∀ y ∈ l1, (Lit.int .u8 y).wf = true) → ∃ k, laws_FnHaves.f k l0 l1 = some true
theorem opens_p0 (W : World) : Opens Try.prog W 50 (Kd.slice 5 (Kd.int .u8)) (fun a => (a.length * 1 ≤ 140737488351232 ∧ ∀ y ∈ a, (Lit.int .u8 y).wf = true)) :=
  (opens_slice 1 Try.underlying50 (by kernel_rfl) (by kernel_rfl) (opens_int Try.underlying5))
theorem opens_p1 (W : World) : Opens Try.prog W 50 (Kd.slice 5 (Kd.int .u8)) (fun a => (a.length * 1 ≤ 140737488351232 ∧ ∀ y ∈ a, (Lit.int .u8 y).wf = true)) :=
  (opens_slice 1 Try.underlying50 (by kernel_rfl) (by kernel_rfl) (opens_int Try.underlying5))
end Go.Proofs.Ytpcimkpklmemnaa.PFnHaves
