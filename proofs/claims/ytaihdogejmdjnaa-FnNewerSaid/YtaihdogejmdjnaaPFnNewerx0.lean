-- Written by a program of this project (myprint.py, by way of the kit's printer). Not trusted: Lean checks it.
import Derived.Test.YtaihdogejmdjnaaProg
import Derived.Below
import Derived.Deep.Draws
import Derived.Deep.AppendLies
import Derived.Maps.AppendAt
import Derived.OwnWalk
import Derived.Laws.BytesArg
import Derived.Laws.MakeOwn
import Derived.Laws.OwnMore
import Derived.Deep.OwnRows
import Derived.Tactics
import Derived.Lib.ConvBytes
import Derived.Laws.Slices
import Derived.WalkKit
import Derived.KernelRfl
import Derived.RowKit3
import Derived.Deep.LoopGhost
import Derived.Deep.QuietTactic
import Derived.BigQuiet
import Derived.WideLaws
import Derived.Deep.DeepCutAuto
import Derived.Deep.CutBlock
import Derived.Deep.RegionHeld3
import Derived.Laws.Rows
import Derived.Lib.AppendStr
import Derived.ArgAppend
import Derived.Laws.IdiomCopy
import Derived.OrdersHeld
import Derived.Laws.BitsLemmas
import Derived.Lib.SliceRun
import Derived.RowKit
import Derived.Test.YtaihdogejmdjnaaWWords
import Derived.Test.YtaihdogejmdjnaaWLast
import Derived.Test.YtaihdogejmdjnaaWTab
import Derived.Test.YtaihdogejmdjnaaWFour
import Derived.Test.YtaihdogejmdjnaaWQPut
import Derived.Test.YtaihdogejmdjnaaWApart
import Derived.Test.YtaihdogejmdjnaaWArr
import Derived.Test.YtaihdogejmdjnaaWZeros
import Derived.Test.YtaihdogejmdjnaaWFoot
import Derived.Test.YtaihdogejmdjnaaWKept
import Derived.Test.YtaihdogejmdjnaaWShare
import Derived.Test.YtaihdogejmdjnaaWN
import Derived.Test.YtaihdogejmdjnaaWFootNe
import Derived.Test.YtaihdogejmdjnaaWAt
import Derived.Test.YtaihdogejmdjnaaWEqStruct
import Derived.Test.YtaihdogejmdjnaaWRepsOne
import Derived.Test.YtaihdogejmdjnaaWInv
import Derived.Test.YtaihdogejmdjnaaWInvWords
import Derived.Test.YtaihdogejmdjnaaWGuard
import Derived.Test.YtaihdogejmdjnaaWNEv
import Derived.Test.YtaihdogejmdjnaaWMore
namespace Go.Proofs.Ytaihdogejmdjnaa.PFnNewer
open Go.RowKit Go.Proofs.YtaihdogejmdjnaaW.PrintWords Go.Proofs.YtaihdogejmdjnaaW.PrintLast Go.Proofs.YtaihdogejmdjnaaW.PrintMore
attribute [local go_sem] max2_int min2_int max_two min_two max_three min_three max_four min_four   -- for this text's walks alone
set_option linter.unusedVariables false
set_option linter.unusedSimpArgs false



def errW : Option Int → Value
  | none => .nilIface
  | some c => .iface 0 (.int .i64 c)
theorem errW_none : errW none = .nilIface := rfl
theorem errW_some (c : Int) : errW (some c) = .iface 0 (.int .i64 c) := rfl

theorem info3 : (Try.prog.info? 3).map (fun i => (i.zero, i.size, i.bytes)) = some (some (.int .i64 0), 1, 8) := by kernel_rfl
-- the values' own types

end Go.Proofs.Ytaihdogejmdjnaa.PFnNewer
