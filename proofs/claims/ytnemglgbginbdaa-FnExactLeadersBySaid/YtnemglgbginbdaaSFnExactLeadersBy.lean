/- The pure statement of the law FnExactLeadersBy, and what its arguments read as. No condition. -/
import Derived.Test.YtnemglgbginbdaaPFnExactLeadersByx10
import Derived.Test.YtnemglgbginbdaaPFnExactLeadersByx0
import Derived.Test.YtnemglgbginbdaaOpen
import Derived.KernelRfl
namespace Go.Proofs.Ytnemglgbginbdaa.PFnExactLeadersBy
open Go.RowKit Go.Proofs.YtnemglgbginbdaaW.PrintWords Go.Proofs.Ytnemglgbginbdaa.Open
set_option linter.unusedVariables false
def b44 (x : S44) : Prop := (Lit.int .i64 x.f0).wf = true ∧ (Lit.int .i64 x.f1).wf = true ∧ True
theorem opens_44 (W : World) : Opens Try.prog W 44 k44 b44 :=
  opens_iso (f := fun x : S44 => (x.f0, x.f1, x.f2)) (opens_struct Try.underlying44 (by kernel_rfl) (opensF_cons (opens_int Try.underlying3) rfl (by kernel_rfl) (opensF_cons (opens_int Try.underlying3) rfl (by kernel_rfl) (opensF_one (opens_bool Try.underlying4) rfl (by kernel_rfl)) rfl) rfl)) (fun a => ⟨a.1, a.2.1, a.2.2⟩) (fun _ => rfl) (fun _ h => h)
/-- The pure statement. -/
def laws_FnExactLeadersBy.PureS : Prop := ∀ (l0 : List (S44)) (l1 : List (List Int)), (l0.length * 24 ≤ 140737488351232 ∧ ∀ y ∈ l0, b44 y) → (l1.length * 24 ≤ 140737488351232 ∧ ∀ y ∈ l1, (y.length * 8 ≤ 140737488351232 ∧ ∀ z ∈ y, (Lit.int .i64 z).wf = true)) → ∃ k, laws_FnExactLeadersBy.f k l0 l1 = some true
theorem opens_p0 (W : World) : Opens Try.prog W 49 (Kd.slice 44 k44) (fun a => (a.length * 24 ≤ 140737488351232 ∧ ∀ y ∈ a, b44 y)) :=
  (opens_slice 24 Try.underlying49 (by kernel_rfl) (by kernel_rfl) (opens_44 W))
theorem opens_p1 (W : World) : Opens Try.prog W 67 (Kd.slice 25 (Kd.slice 3 (Kd.int .i64))) (fun a => (a.length * 24 ≤ 140737488351232 ∧ ∀ y ∈ a, (y.length * 8 ≤ 140737488351232 ∧ ∀ z ∈ y, (Lit.int .i64 z).wf = true))) :=
  (opens_slice 24 Try.underlying67 (by kernel_rfl) (by kernel_rfl) (opens_slice 8 Try.underlying25 (by kernel_rfl) (by kernel_rfl) (opens_int Try.underlying3)))
end Go.Proofs.Ytnemglgbginbdaa.PFnExactLeadersBy
