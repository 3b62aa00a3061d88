/- The pure statement of the law FnExactBeats, and what its arguments read as. No condition. -/
import Derived.Test.YtnemglgbginbdaaPFnExactBeatsx2
import Derived.Test.YtnemglgbginbdaaPFnExactBeatsx0
import Derived.Test.YtnemglgbginbdaaOpen
import Derived.KernelRfl
namespace Go.Proofs.Ytnemglgbginbdaa.PFnExactBeats
open Go.RowKit Go.Proofs.YtnemglgbginbdaaW.PrintWords Go.Proofs.Ytnemglgbginbdaa.Open
set_option linter.unusedVariables false
/-- The pure statement. -/
def laws_FnExactBeats.PureS : Prop := ∀ (a0_0 : Int) (a0_1 : Int) (a0_2 : Bool) (a1_0 : Int) (a1_1 : Int) (a1_2 : Bool), (Lit.int .i64 a0_0).wf = true → (Lit.int .i64 a0_1).wf = true → (Lit.int .i64 a1_0).wf = true → (Lit.int .i64 a1_1).wf = true → laws_FnExactBeats.f a0_0 a0_1 a0_2 a1_0 a1_1 a1_2 = some true
theorem opens_p0 (W : World) : Opens Try.prog W 44 (Kd.pair (Kd.int .i64) (Kd.pair (Kd.int .i64) Kd.bool)) (fun a => (Lit.int .i64 a.1).wf = true ∧ (Lit.int .i64 a.2.1).wf = true ∧ True) :=
  opens_struct Try.underlying44 (by kernel_rfl) (opensF_cons (opens_int Try.underlying3) rfl (by kernel_rfl) (opensF_cons (opens_int Try.underlying3) rfl (by kernel_rfl) (opensF_one (opens_bool Try.underlying4) rfl (by kernel_rfl)) rfl) rfl)
theorem opens_p1 (W : World) : Opens Try.prog W 44 (Kd.pair (Kd.int .i64) (Kd.pair (Kd.int .i64) Kd.bool)) (fun a => (Lit.int .i64 a.1).wf = true ∧ (Lit.int .i64 a.2.1).wf = true ∧ True) :=
  opens_struct Try.underlying44 (by kernel_rfl) (opensF_cons (opens_int Try.underlying3) rfl (by kernel_rfl) (opensF_cons (opens_int Try.underlying3) rfl (by kernel_rfl) (opensF_one (opens_bool Try.underlying4) rfl (by kernel_rfl)) rfl) rfl)
end Go.Proofs.Ytnemglgbginbdaa.PFnExactBeats
