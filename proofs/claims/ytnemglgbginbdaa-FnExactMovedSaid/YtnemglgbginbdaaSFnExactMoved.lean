/- The pure statement of the law FnExactMoved, and what its arguments read as. No condition. -/
import Derived.Test.YtnemglgbginbdaaPFnExactMovedx7
import Derived.Test.YtnemglgbginbdaaPFnExactMovedx0
import Derived.Test.YtnemglgbginbdaaOpen
import Derived.KernelRfl
namespace Go.Proofs.Ytnemglgbginbdaa.PFnExactMoved
open Go.RowKit Go.Proofs.YtnemglgbginbdaaW.PrintWords Go.Proofs.Ytnemglgbginbdaa.Open
set_option linter.unusedVariables false
def b44 (x : S44) : Prop := (Lit.int .i64 x.f0).wf = true ∧ (Lit.int .i64 x.f1).wf = true ∧ True
theorem opens_44 (W : World) : Opens Try.prog W 44 k44 b44 :=
  opens_iso (f := fun x : S44 => (x.f0, x.f1, x.f2)) (opens_struct Try.underlying44 (by kernel_rfl) (opensF_cons (opens_int Try.underlying3) rfl (by kernel_rfl) (opensF_cons (opens_int Try.underlying3) rfl (by kernel_rfl) (opensF_one (opens_bool Try.underlying4) rfl (by kernel_rfl)) rfl) rfl)) (fun a => ⟨a.1, a.2.1, a.2.2⟩) (fun _ => rfl) (fun _ h => h)
/-- The pure statement. -/
def laws_FnExactMoved.PureS : Prop := ∀ (l0 : List (S44)) (a1 : Int) (a2 : Int), (l0.length * 24 ≤ 140737488351232 ∧ ∀ y ∈ l0, b44 y) → (Lit.int .i64 a1).wf = true → (Lit.int .i64 a2).wf = true → ∃ k, laws_FnExactMoved.f k l0 a1 a2 = some true
theorem opens_p0 (W : World) : Opens Try.prog W 49 (Kd.slice 44 k44) (fun a => (a.length * 24 ≤ 140737488351232 ∧ ∀ y ∈ a, b44 y)) :=
  (opens_slice 24 Try.underlying49 (by kernel_rfl) (by kernel_rfl) (opens_44 W))
end Go.Proofs.Ytnemglgbginbdaa.PFnExactMoved
