/- Words of the print, of which only those stand here that this claim names. -/
-- Written by a program of this session (wip/cprint.py), which calls the kit's print and adds contracts proved by hand.
import Derived.Test.YtaiechbdcddalaaPrint0
namespace Go.Proofs.Ytaiechbdcddalaa.Print
open Go.RowKit Go.Proofs.YtaiechbdcddalaaW.PrintWords Go.Proofs.YtaiechbdcddalaaW.PrintLast Go.Proofs.YtaiechbdcddalaaW.PrintMore
attribute [local go_sem] max2_int min2_int max_two min_two max_three min_three max_four min_four   -- for this text's walks alone
set_option linter.unusedVariables false
set_option linter.unusedSimpArgs false

/-! ### creelref15_right: function 42 -/
/-! ### creelref01_Put: function 43 -/
/-! ### creelref15_Shared: function 44 -/
/-! ### creelref15_Put: function 28 -/
/-! ### creelref02_entry: function 72 -/
/-! ### creelref02_Add: function 68 -/
/-! ### creelref02_Sum: function 61 -/
end Go.Proofs.Ytaiechbdcddalaa.Print
