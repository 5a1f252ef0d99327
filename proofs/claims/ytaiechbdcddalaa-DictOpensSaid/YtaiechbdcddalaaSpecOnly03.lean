/- Frames, and nothing else (layer 3). -/
import Derived.Test.YtaiechbdcddalaaSpecFrameAll
import Derived.Test.YtaiechbdcddalaaPrint4
/- What is told apart: lists of rows. -/

set_option linter.unusedVariables false
set_option linter.unusedSimpArgs false
namespace Go.Proofs.Ytaiechbdcddalaa.Plain
open Go.RowKit Go.Proofs.YtaiechbdcddalaaW.PrintWords Go.Proofs.YtaiechbdcddalaaW.PrintLast Go.Proofs.YtaiechbdcddalaaW.PrintMore Go.Proofs.Ytaiechbdcddalaa.Print

theorem allF_len {b : List Int} (hb : Bs b) : 8 * (allF b).1.length ≤ b.length := by
  obtain ⟨_, _, h3, h4, _⟩ := allF_inv b.length b (Nat.le_refl _) hb
  have := frames_count (allF b).1
  omega

end Go.Proofs.Ytaiechbdcddalaa.Plain

set_option linter.unusedVariables false
set_option linter.unusedSimpArgs false
namespace Go.Proofs.Ytaiechbdcddalaa.Plain
open Go.RowKit Go.Proofs.YtaiechbdcddalaaW.PrintWords Go.Proofs.YtaiechbdcddalaaW.PrintLast Go.Proofs.YtaiechbdcddalaaW.PrintMore Go.Proofs.Ytaiechbdcddalaa.Print

/-- What frames have, if there is nothing else. -/
def onlyF (b : List Int) : List (List Int) × Int := if (allF b).2 < b.length then ([], (takeF (b.drop (allF b).2)).2.2) else ((allF b).1, 0)
theorem Only_ev (b : List Int) (hb : Bs b) (hl : b.length ≤ 1000000) : Ev (fun k => frame_Only.f k b) (onlyF b) := by
  unfold frame_Only.f onlyF
  refine Ev.bind (All_ev b hb hl) ?_
  by_cases h : (allF b).2 < b.length
  · refine Ev.congr (f := fun k => (frame_take.f k (b.drop (allF b).2)).bind fun bt370 => (some (([] : List (List Int)), bt370.2.2))) (fun k => ?_) (Ev.bind (take_ev (b.drop (allF b).2) (by rw [List.length_drop]; omega) (hb.drop _)) (all_ev fun k => by rw [if_pos h]))
    show (if ((allF b).2 : Int) < (b.length : Int) then _ else _) = _
    rw [if_pos (by omega), if_pos (by omega), if_pos (by omega)]; rfl
  · refine all_ev fun k => ?_
    show (if ((allF b).2 : Int) < (b.length : Int) then _ else _) = _
    rw [if_neg (by omega), if_neg h]

end Go.Proofs.Ytaiechbdcddalaa.Plain
