/- The pure statement of the law FnExactSwapTwo, and what its arguments read as. No condition. -/
import Derived.Test.YtmagnbbpbhmacaaPFnExactSwapTwox1
import Derived.Test.YtmagnbbpbhmacaaPFnExactSwapTwox0
import Derived.Test.YtmagnbbpbhmacaaOpen
import Derived.KernelRfl
namespace Go.Proofs.Ytmagnbbpbhmacaa.PFnExactSwapTwo
open Go.RowKit Go.Proofs.YtmagnbbpbhmacaaW.PrintWords Go.Proofs.Ytmagnbbpbhmacaa.Open
set_option linter.unusedVariables false
/-- The pure statement. -/
def laws_FnExactSwapTwo.PureS : Prop := ∀ (a0 : ByteArray) (a1 : Int), a0.size ≤ 140737488351232 → (Lit.int .i64 a1).wf = true → ∃ k, laws_FnExactSwapTwo.f k a0 a1 = some true
end Go.Proofs.Ytmagnbbpbhmacaa.PFnExactSwapTwo
