/- What is told apart: lists of rows. -/
import Derived.Test.YtaiechbdcddalaaSpecFrameAll

set_option linter.unusedVariables false
set_option linter.unusedSimpArgs false
namespace Go.Proofs.Ytaiechbdcddalaa.Plain
open Go.RowKit Go.Proofs.YtaiechbdcddalaaW.PrintWords Go.Proofs.YtaiechbdcddalaaW.PrintLast Go.Proofs.YtaiechbdcddalaaW.PrintMore Go.Proofs.Ytaiechbdcddalaa.Print

theorem allF_len {b : List Int} (hb : Bs b) : 8 * (allF b).1.length ≤ b.length := by
  obtain ⟨_, _, h3, h4, _⟩ := allF_inv b.length b (Nat.le_refl _) hb
  have := frames_count (allF b).1
  omega

end Go.Proofs.Ytaiechbdcddalaa.Plain
