-- WRITTEN BY A PROGRAM OF THIS SESSION (hprint.py), which leads the kit's print round functions that are proved by hand. Not trusted: Lean checks it.
import Derived.Test.YtmpfnniekemkbaaProg
import Derived.Below
import Derived.Deep.Draws
import Derived.Deep.AppendLies
import Derived.Maps.AppendAt
import Derived.OwnWalk
import Derived.Laws.BytesArg
import Derived.Laws.MakeOwn
import Derived.Laws.OwnMore
import Derived.Deep.OwnRows
import Derived.Tactics
import Derived.Lib.ConvBytes
import Derived.Laws.Slices
import Derived.WalkKit
import Derived.KernelRfl
import Derived.RowKit3
import Derived.Deep.LoopGhost
import Derived.Deep.QuietTactic
import Derived.BigQuiet
import Derived.WideLaws
import Derived.Deep.DeepCutAuto
import Derived.Deep.CutBlock
import Derived.Deep.RegionHeld3
import Derived.Laws.Rows
import Derived.Lib.AppendStr
import Derived.ArgAppend
import Derived.Laws.IdiomCopy
import Derived.OrdersHeld
import Derived.Laws.BitsLemmas
import Derived.RowKit
import Derived.Test.YtmpfnniekemkbaaHand
import Derived.Test.YtmpfnniekemkbaaWWords
import Derived.Test.YtmpfnniekemkbaaWLast
import Derived.Test.YtmpfnniekemkbaaWTab
import Derived.Test.YtmpfnniekemkbaaWFour
import Derived.Test.YtmpfnniekemkbaaWQPut
import Derived.Test.YtmpfnniekemkbaaWApart
import Derived.Test.YtmpfnniekemkbaaWArr
import Derived.Test.YtmpfnniekemkbaaWZeros
import Derived.Test.YtmpfnniekemkbaaWFoot
import Derived.Test.YtmpfnniekemkbaaWKept
import Derived.Test.YtmpfnniekemkbaaWShare
import Derived.Test.YtmpfnniekemkbaaWN
import Derived.Test.YtmpfnniekemkbaaWFootNe
import Derived.Test.YtmpfnniekemkbaaWAt
import Derived.Test.YtmpfnniekemkbaaWEqStruct
import Derived.Test.YtmpfnniekemkbaaWRepsOne
import Derived.Test.YtmpfnniekemkbaaWInv
import Derived.Test.YtmpfnniekemkbaaWInvWords
import Derived.Test.YtmpfnniekemkbaaWGuard
import Derived.Test.YtmpfnniekemkbaaWNEv
import Derived.Test.YtmpfnniekemkbaaWMore
namespace Go.Proofs.Ytmpfnniekemkbaa.Q
open Go.RowKit Go.Proofs.YtmpfnniekemkbaaW.PrintWords Go.Proofs.YtmpfnniekemkbaaW.PrintLast Go.Proofs.YtmpfnniekemkbaaW.PrintMore
attribute [local go_sem] max2_int min2_int max_two min_two max_three min_three max_four min_four   -- for this text's walks alone
set_option linter.unusedVariables false
set_option linter.unusedSimpArgs false



def errW : Option Int → Value
  | none => .nilIface
  | some c => .iface 0 (.int .i64 c)
theorem errW_none : errW none = .nilIface := rfl
theorem errW_some (c : Int) : errW (some c) = .iface 0 (.int .i64 c) := rfl

theorem info5 : (Try.prog.info? 5).map (fun i => (i.zero, i.size, i.bytes)) = some (some (.int .u8 0), 1, 1) := by kernel_rfl
-- the values' own types

end Go.Proofs.Ytmpfnniekemkbaa.Q
