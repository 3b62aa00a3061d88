-- Words that the kit's printer wrote for this seat, less those that this claim does not reach (left out by a program of this project).
import Derived.Test.YtpcimkpklmemnaaWTab
/-! ### 56. Four, five, six operations that may come up next, in any order -/
namespace Go.Proofs.YtpcimkpklmemnaaW.PrintLast
section
variable {P : Program} {ops : Array Oper} {Q : Exit → Act → World → Prop} {md : Region.Mode} {S : World → Prop} {ds : List Nat} {T : Bool × List (List Nat × List Nat)}
end
end Go.Proofs.YtpcimkpklmemnaaW.PrintLast
