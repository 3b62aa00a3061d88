/- The pure statement of the law FnExactMergeHaves, and what its arguments read as. No condition. -/
import Derived.Test.YtpcimkpklmemnaaPFnExactMergeHavesx5
import Derived.Test.YtpcimkpklmemnaaPFnExactMergeHavesx0
import Derived.Test.YtpcimkpklmemnaaOpen
import Derived.KernelRfl
namespace Go.Proofs.Ytpcimkpklmemnaa.PFnExactMergeHaves
open Go.RowKit Go.Proofs.YtpcimkpklmemnaaW.PrintWords Go.Proofs.Ytpcimkpklmemnaa.Open
set_option linter.unusedVariables false
def b60 (x : S60) : Prop := (Lit.int .i64 x.f0).wf = true ∧ (Lit.int .i64 x.f1).wf = true
theorem opens_60 (W : World) : Opens Try.prog W 60 k60 b60 :=
  opens_iso (f := fun x : S60 => (x.f0, x.f1)) (opens_struct Try.underlying60 (by kernel_rfl) (opensF_cons (opens_int Try.underlying3) rfl (by kernel_rfl) (opensF_one (opens_int Try.underlying3) rfl (by kernel_rfl)) rfl)) (fun a => ⟨a.1, a.2⟩) (fun _ => rfl) (fun _ h => h)
/-- The pure statement. -/
def laws_FnExactMergeHaves.PureS : Prop := ∀ (l0 : List (S60)) (l1 : List (S60)), (l0.length * 16 ≤ 140737488351232 ∧ ∀ y ∈ l0, b60 y) → (l1.length * 16 ≤ 140737488351232 ∧ ∀ y ∈ l1, b60 y) → ∃ k, laws_FnExactMergeHaves.f k l0 l1 = some true
theorem opens_p0 (W : World) : Opens Try.prog W 22 (Kd.slice 60 k60) (fun a => (a.length * 16 ≤ 140737488351232 ∧ ∀ y ∈ a, b60 y)) :=
  (opens_slice 16 Try.underlying22 (by kernel_rfl) (by kernel_rfl) (opens_60 W))
theorem opens_p1 (W : World) : Opens Try.prog W 22 (Kd.slice 60 k60) (fun a => (a.length * 16 ≤ 140737488351232 ∧ ∀ y ∈ a, b60 y)) :=
  (opens_slice 16 Try.underlying22 (by kernel_rfl) (by kernel_rfl) (opens_60 W))
end Go.Proofs.Ytpcimkpklmemnaa.PFnExactMergeHaves
