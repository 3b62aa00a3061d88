-- Words that the kit's printer wrote for this seat, less those that this claim does not reach (left out by a program of this project).
import Derived.Test.YtajfpfmbmkmafaaWInv
import Derived.Test.YtajfpfmbmkmafaaWFootNe
namespace Go.Proofs.YtajfpfmbmkmafaaW.PrintWords
open Go.RowKit
end Go.Proofs.YtajfpfmbmkmafaaW.PrintWords
namespace Go.Proofs.YtajfpfmbmkmafaaW.PrintLast
section
variable {ops : Array Oper} {a : Act} {o og : Oper} {g : Nat} {t : Tmp} {u : Bool}
end
end Go.Proofs.YtajfpfmbmkmafaaW.PrintLast
