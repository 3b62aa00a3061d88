/- The pure statement of the law FnExactPartsOf, and what its arguments read as. No condition. -/
import Derived.Test.YtajfpfmbmkmafaaPFnExactPartsOfx4
import Derived.Test.YtajfpfmbmkmafaaPFnExactPartsOfx0
import Derived.Test.YtajfpfmbmkmafaaOpen
import Derived.KernelRfl
namespace Go.Proofs.Ytajfpfmbmkmafaa.PFnExactPartsOf
open Go.RowKit Go.Proofs.YtajfpfmbmkmafaaW.PrintWords Go.Proofs.Ytajfpfmbmkmafaa.Open
set_option linter.unusedVariables false
def b35 (x : S35) : Prop := (Lit.int .i64 x.f0).wf = true ∧ x.f1.size ≤ 140737488351232 ∧ (x.f2.length * 8 ≤ 140737488351232 ∧ ∀ y ∈ x.f2, (Lit.int .i64 y).wf = true)
theorem opens_35 (W : World) : Opens Try.prog W 35 k35 b35 :=
  opens_iso (f := fun x : S35 => (x.f0, x.f1, x.f2)) (opens_struct Try.underlying35 (by kernel_rfl) (opensF_cons (opens_int Try.underlying3) rfl (by kernel_rfl) (opensF_cons (opens_string Try.underlying9) rfl (by kernel_rfl) (opensF_one (opens_slice 8 Try.underlying25 (by kernel_rfl) (by kernel_rfl) (opens_int Try.underlying3)) rfl (by kernel_rfl)) rfl) rfl)) (fun a => ⟨a.1, a.2.1, a.2.2⟩) (fun _ => rfl) (fun _ h => h)
/-- The pure statement. -/
def laws_FnExactPartsOf.PureS : Prop := ∀ (l0 : List (S35)) (a1 : Int), (l0.length * 48 ≤ 140737488351232 ∧ ∀ y ∈ l0, b35 y) → (Lit.int .i64 a1).wf = true → ∃ k, laws_FnExactPartsOf.f k l0 a1 = some true
theorem opens_p0 (W : World) : Opens Try.prog W 43 (Kd.slice 35 k35) (fun a => (a.length * 48 ≤ 140737488351232 ∧ ∀ y ∈ a, b35 y)) :=
  (opens_slice 48 Try.underlying43 (by kernel_rfl) (by kernel_rfl) (opens_35 W))
end Go.Proofs.Ytajfpfmbmkmafaa.PFnExactPartsOf
