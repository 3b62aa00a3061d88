/- The pure statement of the law FnExactAllSame, and what its arguments read as. No condition. -/
import Derived.Test.YtdbnjjpkpaifcaaPFnExactAllSamex12
import Derived.Test.YtdbnjjpkpaifcaaPFnExactAllSamex0
import Derived.Test.YtdbnjjpkpaifcaaOpen
import Derived.KernelRfl
namespace Go.Proofs.Ytdbnjjpkpaifcaa.PFnExactAllSame
open Go.RowKit Go.Proofs.YtdbnjjpkpaifcaaW.PrintWords Go.Proofs.Ytdbnjjpkpaifcaa.Open
set_option linter.unusedVariables false
def b76 (x : S76) : Prop := (Lit.int .i64 x.f0).wf = true ∧ (Lit.int .i64 x.f1).wf = true
theorem opens_76 (W : World) : Opens Try.prog W 76 k76 b76 :=
  opens_iso (f := fun x : S76 => (x.f0, x.f1)) (opens_struct Try.underlying76 (by kernel_rfl) (opensF_cons (opens_int Try.underlying3) rfl (by kernel_rfl) (opensF_one (opens_int Try.underlying3) rfl (by kernel_rfl)) rfl)) (fun a => ⟨a.1, a.2⟩) (fun _ => rfl) (fun _ h => h)
def b78 (x : S78) : Prop := (Lit.int .i64 x.f0).wf = true ∧ (Lit.int .i64 x.f1).wf = true ∧ b76 x.f2 ∧ True
theorem opens_78 (W : World) : Opens Try.prog W 78 k78 b78 :=
  opens_iso (f := fun x : S78 => (x.f0, x.f1, x.f2, x.f3)) (opens_struct Try.underlying78 (by kernel_rfl) (opensF_cons (opens_int Try.underlying3) rfl (by kernel_rfl) (opensF_cons (opens_int Try.underlying3) rfl (by kernel_rfl) (opensF_cons (opens_76 W) rfl (by kernel_rfl) (opensF_one (opens_bool Try.underlying4) rfl (by kernel_rfl)) rfl) rfl) rfl)) (fun a => ⟨a.1, a.2.1, a.2.2.1, a.2.2.2⟩) (fun _ => rfl) (fun _ h => h)
/-- The pure statement. -/
def laws_FnExactAllSame.PureS : Prop := ∀ (l0_0 : List (List Int)) (l0_1 : List (List Int)) (l0_2 : List (List Int)) (l0_3 : List (S78)), (l0_0.length * 24 ≤ 140737488351232 ∧ ∀ y ∈ l0_0, (y.length * 8 ≤ 140737488351232 ∧ ∀ z ∈ y, (Lit.int .i64 z).wf = true)) → (l0_1.length * 24 ≤ 140737488351232 ∧ ∀ y ∈ l0_1, (y.length * 8 ≤ 140737488351232 ∧ ∀ z ∈ y, (Lit.int .i64 z).wf = true)) → (l0_2.length * 24 ≤ 140737488351232 ∧ ∀ y ∈ l0_2, (y.length * 8 ≤ 140737488351232 ∧ ∀ z ∈ y, (Lit.int .i64 z).wf = true)) → (l0_3.length * 40 ≤ 140737488351232 ∧ ∀ y ∈ l0_3, b78 y) → ∃ k, laws_FnExactAllSame.f k l0_0 l0_1 l0_2 l0_3 = some true
theorem opens_p0 (W : World) : Opens Try.prog W 36 (Kd.pair (Kd.slice 46 (Kd.slice 3 (Kd.int .i64))) (Kd.pair (Kd.slice 46 (Kd.slice 3 (Kd.int .i64))) (Kd.pair (Kd.slice 46 (Kd.slice 3 (Kd.int .i64))) (Kd.slice 78 k78)))) (fun a => (a.1.length * 24 ≤ 140737488351232 ∧ ∀ y ∈ a.1, (y.length * 8 ≤ 140737488351232 ∧ ∀ z ∈ y, (Lit.int .i64 z).wf = true)) ∧ (a.2.1.length * 24 ≤ 140737488351232 ∧ ∀ y ∈ a.2.1, (y.length * 8 ≤ 140737488351232 ∧ ∀ z ∈ y, (Lit.int .i64 z).wf = true)) ∧ (a.2.2.1.length * 24 ≤ 140737488351232 ∧ ∀ y ∈ a.2.2.1, (y.length * 8 ≤ 140737488351232 ∧ ∀ z ∈ y, (Lit.int .i64 z).wf = true)) ∧ (a.2.2.2.length * 40 ≤ 140737488351232 ∧ ∀ y ∈ a.2.2.2, b78 y)) :=
  opens_struct Try.underlying36 (by kernel_rfl) (opensF_cons (opens_slice 24 Try.underlying22 (by kernel_rfl) (by kernel_rfl) (opens_slice 8 Try.underlying46 (by kernel_rfl) (by kernel_rfl) (opens_int Try.underlying3))) rfl (by kernel_rfl) (opensF_cons (opens_slice 24 Try.underlying22 (by kernel_rfl) (by kernel_rfl) (opens_slice 8 Try.underlying46 (by kernel_rfl) (by kernel_rfl) (opens_int Try.underlying3))) rfl (by kernel_rfl) (opensF_cons (opens_slice 24 Try.underlying22 (by kernel_rfl) (by kernel_rfl) (opens_slice 8 Try.underlying46 (by kernel_rfl) (by kernel_rfl) (opens_int Try.underlying3))) rfl (by kernel_rfl) (opensF_one (opens_slice 40 Try.underlying34 (by kernel_rfl) (by kernel_rfl) (opens_78 W)) rfl (by kernel_rfl)) rfl) rfl) rfl)
end Go.Proofs.Ytdbnjjpkpaifcaa.PFnExactAllSame
