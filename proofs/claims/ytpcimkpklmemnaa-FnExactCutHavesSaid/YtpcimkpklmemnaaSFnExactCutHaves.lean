/- The pure statement of the law FnExactCutHaves, and what its arguments read as. No condition. -/
import Derived.Test.YtpcimkpklmemnaaPFnExactCutHavesx4
import Derived.Test.YtpcimkpklmemnaaPFnExactCutHavesx0
import Derived.Test.YtpcimkpklmemnaaOpen
import Derived.KernelRfl
namespace Go.Proofs.Ytpcimkpklmemnaa.PFnExactCutHaves
open Go.RowKit Go.Proofs.YtpcimkpklmemnaaW.PrintWords Go.Proofs.Ytpcimkpklmemnaa.Open
set_option linter.unusedVariables false
def b60 (x : S60) : Prop := (Lit.int .i64 x.f0).wf = true ∧ (Lit.int .i64 x.f1).wf = true
theorem opens_60 (W : World) : Opens Try.prog W 60 k60 b60 :=
  opens_iso (f := fun x : S60 => (x.f0, x.f1)) (opens_struct Try.underlying60 (by kernel_rfl) (opensF_cons (opens_int Try.underlying3) rfl (by kernel_rfl) (opensF_one (opens_int Try.underlying3) rfl (by kernel_rfl)) rfl)) (fun a => ⟨a.1, a.2⟩) (fun _ => rfl) (fun _ h => h)
/-- The pure statement. -/
def laws_FnExactCutHaves.PureS : Prop := ∀ (l0 : List (S60)) (a1 : Int), (l0.length * 16 ≤ 140737488351232 ∧ ∀ y ∈ l0, b60 y) → (Lit.int .i64 a1).wf = true → ∃ k, laws_FnExactCutHaves.f k l0 a1 = some true
theorem opens_p0 (W : World) : Opens Try.prog W 22 (Kd.slice 60 k60) (fun a => (a.length * 16 ≤ 140737488351232 ∧ ∀ y ∈ a, b60 y)) :=
  (opens_slice 16 Try.underlying22 (by kernel_rfl) (by kernel_rfl) (opens_60 W))
end Go.Proofs.Ytpcimkpklmemnaa.PFnExactCutHaves
