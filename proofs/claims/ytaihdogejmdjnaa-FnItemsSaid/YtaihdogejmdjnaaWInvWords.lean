-- Words that the kit's printer wrote for this seat, less those that this claim does not reach (left out by a program of this project).
import Derived.Test.YtaihdogejmdjnaaWInv
import Derived.Test.YtaihdogejmdjnaaWFootNe
namespace Go.Proofs.YtaihdogejmdjnaaW.PrintWords
open Go.RowKit
end Go.Proofs.YtaihdogejmdjnaaW.PrintWords
namespace Go.Proofs.YtaihdogejmdjnaaW.PrintLast
section
variable {ops : Array Oper} {a : Act} {o og : Oper} {g : Nat} {t : Tmp} {u : Bool}
end
end Go.Proofs.YtaihdogejmdjnaaW.PrintLast
