/- What the printed functions of layer 2 (crc) compute, told on 32 bits. -/
import Derived.Test.YtaiechbdcddalaaMathVary
import Derived.Test.YtaiechbdcddalaaPrint2
import Derived.Test.YtaiechbdcddalaaSpecTools
/- Plain laws of the sum of bytes (layer 2): bit by bit, on 32 bits. No program in sight. -/
set_option linter.unusedVariables false
set_option linter.unusedSimpArgs false
namespace Go.Proofs.Ytaiechbdcddalaa.Plain

abbrev B32 := BitVec 32
end Go.Proofs.Ytaiechbdcddalaa.Plain

set_option linter.unusedVariables false
set_option linter.unusedSimpArgs false
namespace Go.Proofs.Ytaiechbdcddalaa.Plain
open Go.RowKit Go.Proofs.YtaiechbdcddalaaW.PrintWords Go.Proofs.YtaiechbdcddalaaW.PrintLast Go.Proofs.YtaiechbdcddalaaW.PrintMore Go.Proofs.Ytaiechbdcddalaa.Print

/-- A number as 32 bits. -/
def B (x : Int) : B32 := BitVec.ofInt 32 x
/-- The sum of bytes, gone on. -/
def addS (s : Int) (l : List Int) : Int := Go.bits .xor .u32 IntKind.u32.max (crcFold (Go.bits .xor .u32 IntKind.u32.max s) l)
theorem Add_eq (s : Int) (l : List Int) : crc_Add.f s l = some (addS s l) := rfl
theorem Sum_eq (l : List Int) : crc_Sum.f l = some (addS 0 l) := by unfold crc_Sum.f; rw [Add_eq]; rfl
/-! ### Bits that are turned -/
end Go.Proofs.Ytaiechbdcddalaa.Plain
