-- WRITTEN BY A PROGRAM OF THIS SESSION (hprint.py), which leads the kit's print round functions that are proved by hand. Not trusted: Lean checks it.
import Derived.Test.YtmpfnniekemkbaaQx0
import Derived.Test.YtmpfnniekemkbaaFixed
namespace Go.Proofs.Ytmpfnniekemkbaa.Q
open Go.RowKit Go.Proofs.YtmpfnniekemkbaaW.PrintWords Go.Proofs.YtmpfnniekemkbaaW.PrintLast Go.Proofs.YtmpfnniekemkbaaW.PrintMore
attribute [local go_sem] max2_int min2_int max_two min_two max_three min_three max_four min_four   -- for this text's walks alone
set_option linter.unusedVariables false
set_option linter.unusedSimpArgs false

-- @IMPORT Derived.Test.YtmpfnniekemkbaaFixed@
/-! ### withylaw09_fixed: function 21, by hand -/
def withylaw09_fixed.f  : Option (Bool) := Hand.withylaw09_fixed.f 
theorem withylaw09_fixed.calls  (r : Bool) (w : World) (h : withylaw09_fixed.f  = some r) :
    Calls Try.prog 21 #[] w fun e w' => e = .returned (.bool r) ∧ Below w.heap.size w w' := Hand.withylaw09_fixed.calls  r w h

end Go.Proofs.Ytmpfnniekemkbaa.Q
