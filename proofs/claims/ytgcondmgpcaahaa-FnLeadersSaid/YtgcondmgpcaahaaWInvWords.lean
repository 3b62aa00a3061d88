-- Words that the kit's printer wrote for this seat, less those that this claim does not reach (left out by a program of this project).
import Derived.Test.YtgcondmgpcaahaaWInv
import Derived.Test.YtgcondmgpcaahaaWFootNe
namespace Go.Proofs.YtgcondmgpcaahaaW.PrintWords
open Go.RowKit
end Go.Proofs.YtgcondmgpcaahaaW.PrintWords
namespace Go.Proofs.YtgcondmgpcaahaaW.PrintLast
section
variable {ops : Array Oper} {a : Act} {o og : Oper} {g : Nat} {t : Tmp} {u : Bool}
end
end Go.Proofs.YtgcondmgpcaahaaW.PrintLast
