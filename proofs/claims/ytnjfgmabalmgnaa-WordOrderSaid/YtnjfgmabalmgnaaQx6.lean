-- WRITTEN BY A PROGRAM OF THIS SESSION (hprint.py), which leads the kit's print round functions that are proved by hand. Not trusted: Lean checks it.
import Derived.Test.YtnjfgmabalmgnaaQx0
import Derived.Test.YtnjfgmabalmgnaaFixed
namespace Go.Proofs.Ytnjfgmabalmgnaa.Q
open Go.RowKit Go.Proofs.YtnjfgmabalmgnaaW.PrintWords Go.Proofs.YtnjfgmabalmgnaaW.PrintLast Go.Proofs.YtnjfgmabalmgnaaW.PrintMore
attribute [local go_sem] max2_int min2_int max_two min_two max_three min_three max_four min_four   -- for this text's walks alone
set_option linter.unusedVariables false
set_option linter.unusedSimpArgs false

-- @IMPORT Derived.Test.YtnjfgmabalmgnaaFixed@
/-! ### withylaw01_fixed: function 19, by hand -/
def withylaw01_fixed.f  : Option (Bool) := Hand.withylaw01_fixed.f 
theorem withylaw01_fixed.calls  (r : Bool) (w : World) (h : withylaw01_fixed.f  = some r) :
    Calls Try.prog 19 #[] w fun e w' => e = .returned (.bool r) ∧ Below w.heap.size w w' := Hand.withylaw01_fixed.calls  r w h

end Go.Proofs.Ytnjfgmabalmgnaa.Q
