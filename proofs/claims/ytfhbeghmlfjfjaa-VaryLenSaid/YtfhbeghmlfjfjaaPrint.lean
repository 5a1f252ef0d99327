-- Written by a program of this session (wip/cprint.py), which calls the kit's print and adds contracts proved by hand.
import Derived.Test.YtfhbeghmlfjfjaaPrint0
import Derived.Test.YtfhbeghmlfjfjaaPrint1
import Derived.Test.YtfhbeghmlfjfjaaPrint2
import Derived.Test.YtfhbeghmlfjfjaaPrint3
import Derived.Test.YtfhbeghmlfjfjaaPrint4
import Derived.Test.YtfhbeghmlfjfjaaPrint5
import Derived.Test.YtfhbeghmlfjfjaaPrint6
import Derived.Test.YtfhbeghmlfjfjaaPrint7
import Derived.Test.YtfhbeghmlfjfjaaPrint8
import Derived.Test.YtfhbeghmlfjfjaaPrint9
namespace Go.Proofs.Ytfhbeghmlfjfjaa.Print
open Go.RowKit Go.Proofs.YtfhbeghmlfjfjaaW.PrintWords Go.Proofs.YtfhbeghmlfjfjaaW.PrintLast Go.Proofs.YtfhbeghmlfjfjaaW.PrintMore
attribute [local go_sem] max2_int min2_int max_two min_two max_three min_three max_four min_four   -- for this text's walks alone
set_option linter.unusedVariables false
set_option linter.unusedSimpArgs false

end Go.Proofs.Ytfhbeghmlfjfjaa.Print
