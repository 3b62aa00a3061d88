/- The pure statement of the law FnExactGoodSummary, and what its arguments read as. No condition. -/
import Derived.Test.YtpcimkpklmemnaaPFnExactGoodSummaryx3
import Derived.Test.YtpcimkpklmemnaaPFnExactGoodSummaryx0
import Derived.Test.YtpcimkpklmemnaaOpen
import Derived.KernelRfl
namespace Go.Proofs.Ytpcimkpklmemnaa.PFnExactGoodSummary
open Go.RowKit Go.Proofs.YtpcimkpklmemnaaW.PrintWords Go.Proofs.Ytpcimkpklmemnaa.Open
set_option linter.unusedVariables false
def b60 (x : S60) : Prop := (Lit.int .i64 x.f0).wf = true ∧ (Lit.int .i64 x.f1).wf = true
theorem opens_60 (W : World) : Opens Try.prog W 60 k60 b60 :=
  opens_iso (f := fun x : S60 => (x.f0, x.f1)) (opens_struct Try.underlying60 (by kernel_rfl) (opensF_cons (opens_int Try.underlying3) rfl (by kernel_rfl) (opensF_one (opens_int Try.underlying3) rfl (by kernel_rfl)) rfl)) (fun a => ⟨a.1, a.2⟩) (fun _ => rfl) (fun _ h => h)
/-- The pure statement. -/
def laws_FnExactGoodSummary.PureS : Prop := ∀ (a0_0 : Int) (a0_1 : Int) (l0_2 : List (S60)), (Lit.int .i64 a0_0).wf = true → (Lit.int .i64 a0_1).wf = true → (l0_2.length * 16 ≤ 140737488351232 ∧ ∀ y ∈ l0_2, b60 y) → ∃ k, laws_FnExactGoodSummary.f k a0_0 a0_1 l0_2 = some true
theorem opens_p0 (W : World) : Opens Try.prog W 33 (Kd.pair (Kd.int .i64) (Kd.pair (Kd.int .i64) (Kd.slice 60 k60))) (fun a => (Lit.int .i64 a.1).wf = true ∧ (Lit.int .i64 a.2.1).wf = true ∧ (a.2.2.length * 16 ≤ 140737488351232 ∧ ∀ y ∈ a.2.2, b60 y)) :=
  opens_struct Try.underlying33 (by kernel_rfl) (opensF_cons (opens_int Try.underlying3) rfl (by kernel_rfl) (opensF_cons (opens_int Try.underlying3) rfl (by kernel_rfl) (opensF_one (opens_slice 16 Try.underlying22 (by kernel_rfl) (by kernel_rfl) (opens_60 W)) rfl (by kernel_rfl)) rfl) rfl)
end Go.Proofs.Ytpcimkpklmemnaa.PFnExactGoodSummary
