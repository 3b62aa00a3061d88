/- The pure statement of the law FnExactAreBoth, and what its arguments read as. No condition. -/
import Derived.Test.YtnemglgbginbdaaPFnExactAreBothx5
import Derived.Test.YtnemglgbginbdaaPFnExactAreBothx0
import Derived.Test.YtnemglgbginbdaaOpen
import Derived.KernelRfl
namespace Go.Proofs.Ytnemglgbginbdaa.PFnExactAreBoth
open Go.RowKit Go.Proofs.YtnemglgbginbdaaW.PrintWords Go.Proofs.Ytnemglgbginbdaa.Open
set_option linter.unusedVariables false
def b94 (x : S94) : Prop := (Lit.int .i64 x.f0).wf = true ∧ True
theorem opens_94 (W : World) : Opens Try.prog W 94 k94 b94 :=
  opens_iso (f := fun x : S94 => (x.f0, x.f1)) (opens_struct Try.underlying94 (by kernel_rfl) (opensF_cons (opens_int Try.underlying3) rfl (by kernel_rfl) (opensF_one (opens_bool Try.underlying4) rfl (by kernel_rfl)) rfl)) (fun a => ⟨a.1, a.2⟩) (fun _ => rfl) (fun _ h => h)
/-- The pure statement. -/
def laws_FnExactAreBoth.PureS : Prop := ∀ (l0_0 : List Int) (l0_1 : List Int) (l0_2 : List (S94)), (l0_0.length * 8 ≤ 140737488351232 ∧ ∀ y ∈ l0_0, (Lit.int .i64 y).wf = true) → (l0_1.length * 8 ≤ 140737488351232 ∧ ∀ y ∈ l0_1, (Lit.int .i64 y).wf = true) → (l0_2.length * 16 ≤ 140737488351232 ∧ ∀ y ∈ l0_2, b94 y) → ∃ k, laws_FnExactAreBoth.f k l0_0 l0_1 l0_2 = some true
theorem opens_p0 (W : World) : Opens Try.prog W 36 (Kd.pair (Kd.slice 3 (Kd.int .i64)) (Kd.pair (Kd.slice 3 (Kd.int .i64)) (Kd.slice 94 k94))) (fun a => (a.1.length * 8 ≤ 140737488351232 ∧ ∀ y ∈ a.1, (Lit.int .i64 y).wf = true) ∧ (a.2.1.length * 8 ≤ 140737488351232 ∧ ∀ y ∈ a.2.1, (Lit.int .i64 y).wf = true) ∧ (a.2.2.length * 16 ≤ 140737488351232 ∧ ∀ y ∈ a.2.2, b94 y)) :=
  opens_struct Try.underlying36 (by kernel_rfl) (opensF_cons (opens_slice 8 Try.underlying25 (by kernel_rfl) (by kernel_rfl) (opens_int Try.underlying3)) rfl (by kernel_rfl) (opensF_cons (opens_slice 8 Try.underlying25 (by kernel_rfl) (by kernel_rfl) (opens_int Try.underlying3)) rfl (by kernel_rfl) (opensF_one (opens_slice 16 Try.underlying34 (by kernel_rfl) (by kernel_rfl) (opens_94 W)) rfl (by kernel_rfl)) rfl) rfl)
end Go.Proofs.Ytnemglgbginbdaa.PFnExactAreBoth
