/- The pure statement of the law FnExactReadFrame, and what its arguments read as. No condition. -/
import Derived.Test.YtajfpfmbmkmafaaPFnExactReadFramex8
import Derived.Test.YtajfpfmbmkmafaaPFnExactReadFramex0
import Derived.Test.YtajfpfmbmkmafaaOpen
import Derived.KernelRfl
namespace Go.Proofs.Ytajfpfmbmkmafaa.PFnExactReadFrame
open Go.RowKit Go.Proofs.YtajfpfmbmkmafaaW.PrintWords Go.Proofs.Ytajfpfmbmkmafaa.Open
set_option linter.unusedVariables false
/-- The pure statement. -/
def laws_FnExactReadFrame.PureS : Prop := ∀ (a0 : ByteArray), a0.size ≤ 140737488351232 → ∃ k, laws_FnExactReadFrame.f k a0 = some true
end Go.Proofs.Ytajfpfmbmkmafaa.PFnExactReadFrame
