-- Words that the kit's printer wrote for this seat, less those that this claim does not reach (left out by a program of this project).
import Derived.Test.YtpcimkpklmemnaaWInv
import Derived.Test.YtpcimkpklmemnaaWFootNe
namespace Go.Proofs.YtpcimkpklmemnaaW.PrintWords
open Go.RowKit
end Go.Proofs.YtpcimkpklmemnaaW.PrintWords
namespace Go.Proofs.YtpcimkpklmemnaaW.PrintLast
section
variable {ops : Array Oper} {a : Act} {o og : Oper} {g : Nat} {t : Tmp} {u : Bool}
end
end Go.Proofs.YtpcimkpklmemnaaW.PrintLast
