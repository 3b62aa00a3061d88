/- The pure statement of the law FnExactFitsRing, and what its arguments read as. No condition. -/
import Derived.Test.YtaihdogejmdjnaaPFnExactFitsRingx4
import Derived.Test.YtaihdogejmdjnaaPFnExactFitsRingx0
import Derived.Test.YtaihdogejmdjnaaOpen
import Derived.KernelRfl
namespace Go.Proofs.Ytaihdogejmdjnaa.PFnExactFitsRing
open Go.RowKit Go.Proofs.YtaihdogejmdjnaaW.PrintWords Go.Proofs.Ytaihdogejmdjnaa.Open
set_option linter.unusedVariables false
/-- The pure statement. -/
def laws_FnExactFitsRing.PureS : Prop := ∀ (l0 : List Int), (l0.length * 8 ≤ 140737488351232 ∧ ∀ y ∈ l0, (Lit.int .i64 y).wf = true) → ∃ k, laws_FnExactFitsRing.f k l0 = some true
theorem opens_p0 (W : World) : Opens Try.prog W 42 (Kd.slice 3 (Kd.int .i64)) (fun a => (a.length * 8 ≤ 140737488351232 ∧ ∀ y ∈ a, (Lit.int .i64 y).wf = true)) :=
  (opens_slice 8 Try.underlying42 (by kernel_rfl) (by kernel_rfl) (opens_int Try.underlying3))
end Go.Proofs.Ytaihdogejmdjnaa.PFnExactFitsRing
