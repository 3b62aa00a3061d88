-- PRINTED BY print.sh 35421559b90ae4d0a3588c463048766b98c2df88dd9212a6774a882060cdf62d: not written by this session
import Derived.Test.YtajfpfmbmkmafaaProg
import Derived.Below
import Derived.Deep.Draws
import Derived.Deep.AppendLies
import Derived.Maps.AppendAt
import Derived.OwnWalk
import Derived.Laws.BytesArg
import Derived.Laws.MakeOwn
import Derived.Laws.OwnMore
import Derived.Deep.OwnRows
import Derived.Tactics
import Derived.Lib.ConvBytes
import Derived.Laws.Slices
import Derived.WalkKit
import Derived.KernelRfl
import Derived.RowKit3
import Derived.Deep.LoopGhost
import Derived.Deep.QuietTactic
import Derived.BigQuiet
import Derived.WideLaws
import Derived.Deep.DeepCutAuto
import Derived.Deep.CutBlock
import Derived.Deep.RegionHeld3
import Derived.Laws.Rows
import Derived.Lib.AppendStr
import Derived.ArgAppend
import Derived.Laws.IdiomCopy
import Derived.OrdersHeld
import Derived.Laws.BitsLemmas
import Derived.RowKit
import Derived.Test.YtajfpfmbmkmafaaWWords
import Derived.Test.YtajfpfmbmkmafaaWLast
import Derived.Test.YtajfpfmbmkmafaaWTab
import Derived.Test.YtajfpfmbmkmafaaWFour
import Derived.Test.YtajfpfmbmkmafaaWQPut
import Derived.Test.YtajfpfmbmkmafaaWApart
import Derived.Test.YtajfpfmbmkmafaaWArr
import Derived.Test.YtajfpfmbmkmafaaWZeros
import Derived.Test.YtajfpfmbmkmafaaWFoot
import Derived.Test.YtajfpfmbmkmafaaWKept
import Derived.Test.YtajfpfmbmkmafaaWShare
import Derived.Test.YtajfpfmbmkmafaaWN
import Derived.Test.YtajfpfmbmkmafaaWFootNe
import Derived.Test.YtajfpfmbmkmafaaWAt
import Derived.Test.YtajfpfmbmkmafaaWEqStruct
import Derived.Test.YtajfpfmbmkmafaaWRepsOne
import Derived.Test.YtajfpfmbmkmafaaWInv
import Derived.Test.YtajfpfmbmkmafaaWInvWords
import Derived.Test.YtajfpfmbmkmafaaWGuard
import Derived.Test.YtajfpfmbmkmafaaWNEv
import Derived.Test.YtajfpfmbmkmafaaWMore
namespace Go.Proofs.Ytajfpfmbmkmafaa.PFnExactGoodPart
open Go.RowKit Go.Proofs.YtajfpfmbmkmafaaW.PrintWords Go.Proofs.YtajfpfmbmkmafaaW.PrintLast Go.Proofs.YtajfpfmbmkmafaaW.PrintMore
attribute [local go_sem] max2_int min2_int max_two min_two max_three min_three max_four min_four   -- for this text's walks alone
set_option linter.unusedVariables false
set_option linter.unusedSimpArgs false



def errW : Option Int → Value
  | none => .nilIface
  | some c => .iface 0 (.int .i64 c)
theorem errW_none : errW none = .nilIface := rfl
theorem errW_some (c : Int) : errW (some c) = .iface 0 (.int .i64 c) := rfl

theorem info3 : (Try.prog.info? 3).map (fun i => (i.zero, i.size, i.bytes)) = some (some (.int .i64 0), 1, 8) := by kernel_rfl
-- the values' own types

end Go.Proofs.Ytajfpfmbmkmafaa.PFnExactGoodPart
