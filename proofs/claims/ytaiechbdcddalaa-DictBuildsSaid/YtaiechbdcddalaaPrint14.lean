/- Words of the print, of which only those stand here that this claim names. -/
-- Written by a program of this session (wip/cprint.py), which calls the kit's print and adds contracts proved by hand.
import Derived.Test.YtaiechbdcddalaaPrint0
import Derived.Test.YtaiechbdcddalaaPrint10
import Derived.Test.YtaiechbdcddalaaPrint11
import Derived.Test.YtaiechbdcddalaaPrint13
namespace Go.Proofs.Ytaiechbdcddalaa.Print
open Go.RowKit Go.Proofs.YtaiechbdcddalaaW.PrintWords Go.Proofs.YtaiechbdcddalaaW.PrintLast Go.Proofs.YtaiechbdcddalaaW.PrintMore
attribute [local go_sem] max2_int min2_int max_two min_two max_three min_three max_four min_four   -- for this text's walks alone
set_option linter.unusedVariables false
set_option linter.unusedSimpArgs false

/-! ### creelref01_Take: function 54 -/
/-! ### creelref15_Take: function 34 -/
/-! ### creelref16_Open: function 16 -/
/-! ### creelref16_Id: function 19 -/
end Go.Proofs.Ytaiechbdcddalaa.Print
