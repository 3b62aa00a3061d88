-- Written by a program of this project (myprint.py, by way of the kit's printer). Not trusted: Lean checks it.
import Derived.Test.YtmagnbbpbhmacaaProg
import Derived.Below
import Derived.Deep.Draws
import Derived.Deep.AppendLies
import Derived.Maps.AppendAt
import Derived.OwnWalk
import Derived.Laws.BytesArg
import Derived.Laws.MakeOwn
import Derived.Laws.OwnMore
import Derived.Deep.OwnRows
import Derived.Tactics
import Derived.Lib.ConvBytes
import Derived.Laws.Slices
import Derived.WalkKit
import Derived.KernelRfl
import Derived.RowKit3
import Derived.Deep.LoopGhost
import Derived.Deep.QuietTactic
import Derived.BigQuiet
import Derived.WideLaws
import Derived.Deep.DeepCutAuto
import Derived.Deep.CutBlock
import Derived.Deep.RegionHeld3
import Derived.Laws.Rows
import Derived.Lib.AppendStr
import Derived.ArgAppend
import Derived.Laws.IdiomCopy
import Derived.OrdersHeld
import Derived.Laws.BitsLemmas
import Derived.Lib.SliceRun
import Derived.RowKit
import Derived.Test.YtmagnbbpbhmacaaWWords
import Derived.Test.YtmagnbbpbhmacaaWLast
import Derived.Test.YtmagnbbpbhmacaaWTab
import Derived.Test.YtmagnbbpbhmacaaWFour
import Derived.Test.YtmagnbbpbhmacaaWQPut
import Derived.Test.YtmagnbbpbhmacaaWApart
import Derived.Test.YtmagnbbpbhmacaaWArr
import Derived.Test.YtmagnbbpbhmacaaWZeros
import Derived.Test.YtmagnbbpbhmacaaWFoot
import Derived.Test.YtmagnbbpbhmacaaWKept
import Derived.Test.YtmagnbbpbhmacaaWShare
import Derived.Test.YtmagnbbpbhmacaaWN
import Derived.Test.YtmagnbbpbhmacaaWFootNe
import Derived.Test.YtmagnbbpbhmacaaWAt
import Derived.Test.YtmagnbbpbhmacaaWEqStruct
import Derived.Test.YtmagnbbpbhmacaaWRepsOne
import Derived.Test.YtmagnbbpbhmacaaWInv
import Derived.Test.YtmagnbbpbhmacaaWInvWords
import Derived.Test.YtmagnbbpbhmacaaWGuard
import Derived.Test.YtmagnbbpbhmacaaWNEv
import Derived.Test.YtmagnbbpbhmacaaWMore
namespace Go.Proofs.Ytmagnbbpbhmacaa.PFnSums
open Go.RowKit Go.Proofs.YtmagnbbpbhmacaaW.PrintWords Go.Proofs.YtmagnbbpbhmacaaW.PrintLast Go.Proofs.YtmagnbbpbhmacaaW.PrintMore
attribute [local go_sem] max2_int min2_int max_two min_two max_three min_three max_four min_four   -- for this text's walks alone
set_option linter.unusedVariables false
set_option linter.unusedSimpArgs false



def errW : Option Int → Value
  | none => .nilIface
  | some c => .iface 0 (.int .i64 c)
theorem errW_none : errW none = .nilIface := rfl
theorem errW_some (c : Int) : errW (some c) = .iface 0 (.int .i64 c) := rfl

theorem info3 : (Try.prog.info? 3).map (fun i => (i.zero, i.size, i.bytes)) = some (some (.int .i64 0), 1, 8) := by kernel_rfl
theorem info5 : (Try.prog.info? 5).map (fun i => (i.zero, i.size, i.bytes)) = some (some (.int .u8 0), 1, 1) := by kernel_rfl
-- the values' own types

end Go.Proofs.Ytmagnbbpbhmacaa.PFnSums
