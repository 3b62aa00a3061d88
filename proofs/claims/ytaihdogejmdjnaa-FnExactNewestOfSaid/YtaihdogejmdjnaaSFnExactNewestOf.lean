/- The pure statement of the law FnExactNewestOf, and what its arguments read as. No condition. -/
import Derived.Test.YtaihdogejmdjnaaPFnExactNewestOfx6
import Derived.Test.YtaihdogejmdjnaaPFnExactNewestOfx0
import Derived.Test.YtaihdogejmdjnaaOpen
import Derived.KernelRfl
namespace Go.Proofs.Ytaihdogejmdjnaa.PFnExactNewestOf
open Go.RowKit Go.Proofs.YtaihdogejmdjnaaW.PrintWords Go.Proofs.Ytaihdogejmdjnaa.Open
set_option linter.unusedVariables false
def b30 (x : S30) : Prop := (Lit.int .i64 x.f0).wf = true ∧ (Lit.int .i64 x.f1).wf = true ∧ (Lit.int .i64 x.f2).wf = true ∧ x.f3.size ≤ 140737488351232
theorem opens_30 (W : World) : Opens Try.prog W 30 k30 b30 :=
  opens_iso (f := fun x : S30 => (x.f0, x.f1, x.f2, x.f3)) (opens_struct Try.underlying30 (by kernel_rfl) (opensF_cons (opens_int Try.underlying3) rfl (by kernel_rfl) (opensF_cons (opens_int Try.underlying3) rfl (by kernel_rfl) (opensF_cons (opens_int Try.underlying3) rfl (by kernel_rfl) (opensF_one (opens_string Try.underlying9) rfl (by kernel_rfl)) rfl) rfl) rfl)) (fun a => ⟨a.1, a.2.1, a.2.2.1, a.2.2.2⟩) (fun _ => rfl) (fun _ h => h)
/-- The pure statement. -/
def laws_FnExactNewestOf.PureS : Prop := ∀ (l0 : List (S30)), (l0.length * 40 ≤ 140737488351232 ∧ ∀ y ∈ l0, b30 y) → ∃ k, laws_FnExactNewestOf.f k l0 = some true
theorem opens_p0 (W : World) : Opens Try.prog W 47 (Kd.slice 30 k30) (fun a => (a.length * 40 ≤ 140737488351232 ∧ ∀ y ∈ a, b30 y)) :=
  (opens_slice 40 Try.underlying47 (by kernel_rfl) (by kernel_rfl) (opens_30 W))
end Go.Proofs.Ytaihdogejmdjnaa.PFnExactNewestOf
