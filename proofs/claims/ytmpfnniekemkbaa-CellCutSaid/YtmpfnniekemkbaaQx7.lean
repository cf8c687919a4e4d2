-- WRITTEN BY A PROGRAM OF THIS SESSION (hprint.py), which leads the kit's print round functions that are proved by hand. Not trusted: Lean checks it.
import Derived.Test.YtmpfnniekemkbaaQx0
import Derived.Test.YtmpfnniekemkbaaReader
namespace Go.Proofs.Ytmpfnniekemkbaa.Q
open Go.RowKit Go.Proofs.YtmpfnniekemkbaaW.PrintWords Go.Proofs.YtmpfnniekemkbaaW.PrintLast Go.Proofs.YtmpfnniekemkbaaW.PrintMore
attribute [local go_sem] max2_int min2_int max_two min_two max_three min_three max_four min_four   -- for this text's walks alone
set_option linter.unusedVariables false
set_option linter.unusedSimpArgs false

-- @IMPORT Derived.Test.YtmpfnniekemkbaaReader@
/-! ### cell_GetValue: function 15, by hand -/
def cell_GetValue.f (a0 : ByteArray) : Option (ByteArray × Bool × ByteArray × Int × Int × Int) := Hand.cell_GetValue.f a0
theorem cell_GetValue.calls (a0 : ByteArray) (r1 : ByteArray) (r2 : Bool) (r3 : ByteArray) (r4 : Int) (r5 : Int) (r6 : Int) (w : World) (h : cell_GetValue.f a0 = some (r1, r2, r3, r4, r5, r6)) :
    Calls Try.prog 15 #[.string a0] w fun e w' => e = .returned (.tuple #[.string r1, .agg #[.bool r2, .string r3, .int .i64 r4, .int .i64 r5], .int .i64 r6]) ∧ Below w.heap.size w w' := Hand.cell_GetValue.calls a0 r1 r2 r3 r4 r5 r6 w h

end Go.Proofs.Ytmpfnniekemkbaa.Q
