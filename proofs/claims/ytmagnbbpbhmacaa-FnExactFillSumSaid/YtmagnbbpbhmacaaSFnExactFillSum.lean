/- The pure statement of the law FnExactFillSum, and what its arguments read as. No condition. -/
import Derived.Test.YtmagnbbpbhmacaaPFnExactFillSumx1
import Derived.Test.YtmagnbbpbhmacaaPFnExactFillSumx0
import Derived.Test.YtmagnbbpbhmacaaOpen
import Derived.KernelRfl
namespace Go.Proofs.Ytmagnbbpbhmacaa.PFnExactFillSum
open Go.RowKit Go.Proofs.YtmagnbbpbhmacaaW.PrintWords Go.Proofs.Ytmagnbbpbhmacaa.Open
set_option linter.unusedVariables false
/-- The pure statement. -/
def laws_FnExactFillSum.PureS : Prop := ∀ (a0 : ByteArray) (a1 : Int), a0.size ≤ 140737488351232 → (Lit.int .i64 a1).wf = true → ∃ k, laws_FnExactFillSum.f k a0 a1 = some true
end Go.Proofs.Ytmagnbbpbhmacaa.PFnExactFillSum
