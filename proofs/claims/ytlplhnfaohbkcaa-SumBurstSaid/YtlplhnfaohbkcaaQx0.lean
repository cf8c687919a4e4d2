-- WRITTEN BY A PROGRAM OF THIS SESSION (hprint.py), which leads the kit's print round functions that are proved by hand. Not trusted: Lean checks it.
import Derived.Test.YtlplhnfaohbkcaaProg
import Derived.Below
import Derived.Deep.Draws
import Derived.Deep.AppendLies
import Derived.Maps.AppendAt
import Derived.OwnWalk
import Derived.Laws.BytesArg
import Derived.Laws.MakeOwn
import Derived.Laws.OwnMore
import Derived.Deep.OwnRows
import Derived.Tactics
import Derived.Lib.ConvBytes
import Derived.Laws.Slices
import Derived.WalkKit
import Derived.KernelRfl
import Derived.RowKit3
import Derived.Deep.LoopGhost
import Derived.Deep.QuietTactic
import Derived.BigQuiet
import Derived.WideLaws
import Derived.Deep.DeepCutAuto
import Derived.Deep.CutBlock
import Derived.Deep.RegionHeld3
import Derived.Laws.Rows
import Derived.Lib.AppendStr
import Derived.ArgAppend
import Derived.Laws.IdiomCopy
import Derived.OrdersHeld
import Derived.Laws.BitsLemmas
import Derived.RowKit
import Derived.Test.YtlplhnfaohbkcaaHand
import Derived.Test.YtlplhnfaohbkcaaWWords
import Derived.Test.YtlplhnfaohbkcaaWLast
import Derived.Test.YtlplhnfaohbkcaaWTab
import Derived.Test.YtlplhnfaohbkcaaWFour
import Derived.Test.YtlplhnfaohbkcaaWQPut
import Derived.Test.YtlplhnfaohbkcaaWApart
import Derived.Test.YtlplhnfaohbkcaaWArr
import Derived.Test.YtlplhnfaohbkcaaWZeros
import Derived.Test.YtlplhnfaohbkcaaWFoot
import Derived.Test.YtlplhnfaohbkcaaWKept
import Derived.Test.YtlplhnfaohbkcaaWShare
import Derived.Test.YtlplhnfaohbkcaaWN
import Derived.Test.YtlplhnfaohbkcaaWFootNe
import Derived.Test.YtlplhnfaohbkcaaWAt
import Derived.Test.YtlplhnfaohbkcaaWEqStruct
import Derived.Test.YtlplhnfaohbkcaaWRepsOne
import Derived.Test.YtlplhnfaohbkcaaWInv
import Derived.Test.YtlplhnfaohbkcaaWInvWords
import Derived.Test.YtlplhnfaohbkcaaWGuard
import Derived.Test.YtlplhnfaohbkcaaWNEv
import Derived.Test.YtlplhnfaohbkcaaWMore
namespace Go.Proofs.Ytlplhnfaohbkcaa.Q
open Go.RowKit Go.Proofs.YtlplhnfaohbkcaaW.PrintWords Go.Proofs.YtlplhnfaohbkcaaW.PrintLast Go.Proofs.YtlplhnfaohbkcaaW.PrintMore
attribute [local go_sem] max2_int min2_int max_two min_two max_three min_three max_four min_four   -- for this text's walks alone
set_option linter.unusedVariables false
set_option linter.unusedSimpArgs false



def errW : Option Int → Value
  | none => .nilIface
  | some c => .iface 0 (.int .i64 c)
theorem errW_none : errW none = .nilIface := rfl
theorem errW_some (c : Int) : errW (some c) = .iface 0 (.int .i64 c) := rfl

theorem info5 : (Try.prog.info? 5).map (fun i => (i.zero, i.size, i.bytes)) = some (some (.int .u8 0), 1, 1) := by kernel_rfl
-- the values' own types

end Go.Proofs.Ytlplhnfaohbkcaa.Q
