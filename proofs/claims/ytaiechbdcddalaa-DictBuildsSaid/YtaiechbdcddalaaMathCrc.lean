/- Plain laws of the sum of bytes (layer 2): bit by bit, on 32 bits. No program in sight. -/
import Derived.Test.YtaiechbdcddalaaMathVary
set_option linter.unusedVariables false
set_option linter.unusedSimpArgs false
namespace Go.Proofs.Ytaiechbdcddalaa.Plain

abbrev B32 := BitVec 32
end Go.Proofs.Ytaiechbdcddalaa.Plain
