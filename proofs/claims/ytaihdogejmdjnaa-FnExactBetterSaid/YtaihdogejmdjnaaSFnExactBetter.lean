/- The pure statement of the law FnExactBetter, and what its arguments read as. No condition. -/
import Derived.Test.YtaihdogejmdjnaaPFnExactBetterx3
import Derived.Test.YtaihdogejmdjnaaPFnExactBetterx0
import Derived.Test.YtaihdogejmdjnaaOpen
import Derived.KernelRfl
namespace Go.Proofs.Ytaihdogejmdjnaa.PFnExactBetter
open Go.RowKit Go.Proofs.YtaihdogejmdjnaaW.PrintWords Go.Proofs.Ytaihdogejmdjnaa.Open
set_option linter.unusedVariables false
/-- The pure statement. -/
def laws_FnExactBetter.PureS : Prop := ∀ (a0_0 : Int) (a0_1 : Int) (a0_2 : Int) (a0_3 : ByteArray) (a1_0 : Int) (a1_1 : Int) (a1_2 : Int) (a1_3 : ByteArray), (Lit.int .i64 a0_0).wf = true → (Lit.int .i64 a0_1).wf = true → (Lit.int .i64 a0_2).wf = true → a0_3.size ≤ 140737488351232 → (Lit.int .i64 a1_0).wf = true → (Lit.int .i64 a1_1).wf = true → (Lit.int .i64 a1_2).wf = true → a1_3.size ≤ 140737488351232 → ∃ k, laws_FnExactBetter.f k a0_0 a0_1 a0_2 a0_3 a1_0 a1_1 a1_2 a1_3 = some true
theorem opens_p0 (W : World) : Opens Try.prog W 30 (Kd.pair (Kd.int .i64) (Kd.pair (Kd.int .i64) (Kd.pair (Kd.int .i64) Kd.string))) (fun a => (Lit.int .i64 a.1).wf = true ∧ (Lit.int .i64 a.2.1).wf = true ∧ (Lit.int .i64 a.2.2.1).wf = true ∧ a.2.2.2.size ≤ 140737488351232) :=
  opens_struct Try.underlying30 (by kernel_rfl) (opensF_cons (opens_int Try.underlying3) rfl (by kernel_rfl) (opensF_cons (opens_int Try.underlying3) rfl (by kernel_rfl) (opensF_cons (opens_int Try.underlying3) rfl (by kernel_rfl) (opensF_one (opens_string Try.underlying9) rfl (by kernel_rfl)) rfl) rfl) rfl)
theorem opens_p1 (W : World) : Opens Try.prog W 30 (Kd.pair (Kd.int .i64) (Kd.pair (Kd.int .i64) (Kd.pair (Kd.int .i64) Kd.string))) (fun a => (Lit.int .i64 a.1).wf = true ∧ (Lit.int .i64 a.2.1).wf = true ∧ (Lit.int .i64 a.2.2.1).wf = true ∧ a.2.2.2.size ≤ 140737488351232) :=
  opens_struct Try.underlying30 (by kernel_rfl) (opensF_cons (opens_int Try.underlying3) rfl (by kernel_rfl) (opensF_cons (opens_int Try.underlying3) rfl (by kernel_rfl) (opensF_cons (opens_int Try.underlying3) rfl (by kernel_rfl) (opensF_one (opens_string Try.underlying9) rfl (by kernel_rfl)) rfl) rfl) rfl)
end Go.Proofs.Ytaihdogejmdjnaa.PFnExactBetter
