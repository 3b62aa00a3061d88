-- PRINTED BY print.sh 35421559b90ae4d0a3588c463048766b98c2df88dd9212a6774a882060cdf62d: not written by this session
import Derived.Test.YtnemglgbginbdaaProg
import Derived.Below
import Derived.Deep.Draws
import Derived.Deep.AppendLies
import Derived.Maps.AppendAt
import Derived.OwnWalk
import Derived.Laws.BytesArg
import Derived.Laws.MakeOwn
import Derived.Laws.OwnMore
import Derived.Deep.OwnRows
import Derived.Tactics
import Derived.Lib.ConvBytes
import Derived.Laws.Slices
import Derived.WalkKit
import Derived.KernelRfl
import Derived.RowKit3
import Derived.Deep.LoopGhost
import Derived.Deep.QuietTactic
import Derived.BigQuiet
import Derived.WideLaws
import Derived.Deep.DeepCutAuto
import Derived.Deep.CutBlock
import Derived.Deep.RegionHeld3
import Derived.Laws.Rows
import Derived.Lib.AppendStr
import Derived.ArgAppend
import Derived.Laws.IdiomCopy
import Derived.OrdersHeld
import Derived.Laws.BitsLemmas
import Derived.RowKit
import Derived.Test.YtnemglgbginbdaaWWords
import Derived.Test.YtnemglgbginbdaaWLast
import Derived.Test.YtnemglgbginbdaaWTab
import Derived.Test.YtnemglgbginbdaaWFour
import Derived.Test.YtnemglgbginbdaaWQPut
import Derived.Test.YtnemglgbginbdaaWApart
import Derived.Test.YtnemglgbginbdaaWArr
import Derived.Test.YtnemglgbginbdaaWZeros
import Derived.Test.YtnemglgbginbdaaWFoot
import Derived.Test.YtnemglgbginbdaaWKept
import Derived.Test.YtnemglgbginbdaaWShare
import Derived.Test.YtnemglgbginbdaaWN
import Derived.Test.YtnemglgbginbdaaWFootNe
import Derived.Test.YtnemglgbginbdaaWAt
import Derived.Test.YtnemglgbginbdaaWEqStruct
import Derived.Test.YtnemglgbginbdaaWRepsOne
import Derived.Test.YtnemglgbginbdaaWInv
import Derived.Test.YtnemglgbginbdaaWInvWords
import Derived.Test.YtnemglgbginbdaaWGuard
import Derived.Test.YtnemglgbginbdaaWNEv
import Derived.Test.YtnemglgbginbdaaWMore
namespace Go.Proofs.Ytnemglgbginbdaa.PFnExactBeats
open Go.RowKit Go.Proofs.YtnemglgbginbdaaW.PrintWords Go.Proofs.YtnemglgbginbdaaW.PrintLast Go.Proofs.YtnemglgbginbdaaW.PrintMore
attribute [local go_sem] max2_int min2_int max_two min_two max_three min_three max_four min_four   -- for this text's walks alone
set_option linter.unusedVariables false
set_option linter.unusedSimpArgs false



def errW : Option Int → Value
  | none => .nilIface
  | some c => .iface 0 (.int .i64 c)
theorem errW_none : errW none = .nilIface := rfl
theorem errW_some (c : Int) : errW (some c) = .iface 0 (.int .i64 c) := rfl

-- the values' own types

end Go.Proofs.Ytnemglgbginbdaa.PFnExactBeats
