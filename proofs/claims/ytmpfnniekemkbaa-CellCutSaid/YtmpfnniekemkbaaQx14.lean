-- WRITTEN BY A PROGRAM OF THIS SESSION (hprint.py), which leads the kit's print round functions that are proved by hand. Not trusted: Lean checks it.
import Derived.Test.YtmpfnniekemkbaaQx0
import Derived.Test.YtmpfnniekemkbaaReader
namespace Go.Proofs.Ytmpfnniekemkbaa.Q
open Go.RowKit Go.Proofs.YtmpfnniekemkbaaW.PrintWords Go.Proofs.YtmpfnniekemkbaaW.PrintLast Go.Proofs.YtmpfnniekemkbaaW.PrintMore
attribute [local go_sem] max2_int min2_int max_two min_two max_three min_three max_four min_four   -- for this text's walks alone
set_option linter.unusedVariables false
set_option linter.unusedSimpArgs false

-- @IMPORT Derived.Test.YtmpfnniekemkbaaReader@
/-! ### cell_GetKid: function 17, by hand -/
def cell_GetKid.f (a0 : ByteArray) : Option (Int × ByteArray × Int) := Hand.cell_GetKid.f a0
theorem cell_GetKid.calls (a0 : ByteArray) (r1 : Int) (r2 : ByteArray) (r3 : Int) (w : World) (h : cell_GetKid.f a0 = some (r1, r2, r3)) :
    Calls Try.prog 17 #[.string a0] w fun e w' => e = .returned (.tuple #[.int .i64 r1, .string r2, .int .i64 r3]) ∧ Below w.heap.size w w' := Hand.cell_GetKid.calls a0 r1 r2 r3 w h

end Go.Proofs.Ytmpfnniekemkbaa.Q
