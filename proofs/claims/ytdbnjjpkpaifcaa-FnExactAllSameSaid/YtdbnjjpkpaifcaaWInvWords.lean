-- Words that the kit's printer wrote for this seat, less those that this claim does not reach (left out by a program of this project).
import Derived.Test.YtdbnjjpkpaifcaaWInv
import Derived.Test.YtdbnjjpkpaifcaaWFootNe
namespace Go.Proofs.YtdbnjjpkpaifcaaW.PrintWords
open Go.RowKit
end Go.Proofs.YtdbnjjpkpaifcaaW.PrintWords
namespace Go.Proofs.YtdbnjjpkpaifcaaW.PrintLast
section
variable {ops : Array Oper} {a : Act} {o og : Oper} {g : Nat} {t : Tmp} {u : Bool}
end
end Go.Proofs.YtdbnjjpkpaifcaaW.PrintLast
