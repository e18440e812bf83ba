-- PRINTED BY print.sh 35421559b90ae4d0a3588c463048766b98c2df88dd9212a6774a882060cdf62d: not written by this session
import Derived.Test.YtnjjbolbemlceaaProg
import Derived.Below
import Derived.Deep.Draws
import Derived.Deep.AppendLies
import Derived.Maps.AppendAt
import Derived.OwnWalk
import Derived.Laws.BytesArg
import Derived.Laws.MakeOwn
import Derived.Laws.OwnMore
import Derived.Deep.OwnRows
import Derived.Tactics
import Derived.Lib.ConvBytes
import Derived.Laws.Slices
import Derived.WalkKit
import Derived.KernelRfl
import Derived.RowKit3
import Derived.Deep.LoopGhost
import Derived.Deep.QuietTactic
import Derived.BigQuiet
import Derived.WideLaws
import Derived.Deep.DeepCutAuto
import Derived.Deep.CutBlock
import Derived.Deep.RegionHeld3
import Derived.Laws.Rows
import Derived.Lib.AppendStr
import Derived.ArgAppend
import Derived.Laws.IdiomCopy
import Derived.OrdersHeld
import Derived.Laws.BitsLemmas
import Derived.RowKit
import Derived.Test.YtnjjbolbemlceaaWWords
import Derived.Test.YtnjjbolbemlceaaWLast
import Derived.Test.YtnjjbolbemlceaaWTab
import Derived.Test.YtnjjbolbemlceaaWFour
import Derived.Test.YtnjjbolbemlceaaWQPut
import Derived.Test.YtnjjbolbemlceaaWApart
import Derived.Test.YtnjjbolbemlceaaWArr
import Derived.Test.YtnjjbolbemlceaaWZeros
import Derived.Test.YtnjjbolbemlceaaWFoot
import Derived.Test.YtnjjbolbemlceaaWKept
import Derived.Test.YtnjjbolbemlceaaWShare
import Derived.Test.YtnjjbolbemlceaaWN
import Derived.Test.YtnjjbolbemlceaaWFootNe
import Derived.Test.YtnjjbolbemlceaaWAt
import Derived.Test.YtnjjbolbemlceaaWEqStruct
import Derived.Test.YtnjjbolbemlceaaWRepsOne
import Derived.Test.YtnjjbolbemlceaaWInv
import Derived.Test.YtnjjbolbemlceaaWInvWords
import Derived.Test.YtnjjbolbemlceaaWGuard
import Derived.Test.YtnjjbolbemlceaaWNEv
import Derived.Test.YtnjjbolbemlceaaWMore
namespace Go.Proofs.Ytnjjbolbemlceaa.PKt
open Go.RowKit Go.Proofs.YtnjjbolbemlceaaW.PrintWords Go.Proofs.YtnjjbolbemlceaaW.PrintLast Go.Proofs.YtnjjbolbemlceaaW.PrintMore
attribute [local go_sem] max2_int min2_int max_two min_two max_three min_three max_four min_four   -- for this text's walks alone
set_option linter.unusedVariables false
set_option linter.unusedSimpArgs false



def errW : Option Int → Value
  | none => .nilIface
  | some c => .iface 0 (.int .i64 c)
theorem errW_none : errW none = .nilIface := rfl
theorem errW_some (c : Int) : errW (some c) = .iface 0 (.int .i64 c) := rfl

-- the values' own types

end Go.Proofs.Ytnjjbolbemlceaa.PKt
