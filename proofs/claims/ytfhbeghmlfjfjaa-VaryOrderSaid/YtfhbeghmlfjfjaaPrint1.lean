-- Written by a program of this session (wip/cprint.py), which calls the kit's print and adds contracts proved by hand.
import Derived.Test.YtfhbeghmlfjfjaaPrint0
namespace Go.Proofs.Ytfhbeghmlfjfjaa.Print
open Go.RowKit Go.Proofs.YtfhbeghmlfjfjaaW.PrintWords Go.Proofs.YtfhbeghmlfjfjaaW.PrintLast Go.Proofs.YtfhbeghmlfjfjaaW.PrintMore
attribute [local go_sem] max2_int min2_int max_two min_two max_three min_three max_four min_four   -- for this text's walks alone
set_option linter.unusedVariables false
set_option linter.unusedSimpArgs false

theorem eqA28 (d : Nat) (w : World) (x0 y0 : Int) (x1 y1 : Int) :
    (Op.equalIn (d + 2) 28 (.agg #[.int .u32 x0, .int .u32 x1]) (.agg #[.int .u32 y0, .int .u32 y1])).run Try.prog w = .ok (x0 == y0 && (x1 == y1)) w := by
  obtain ⟨i_, hi_⟩ := Option.isSome_iff_exists.1 (show (Try.prog.info? 22).isSome = true from by kernel_rfl)
  rw [run_equalIn_array w (d + 1) _ _ Try.underlying28 hi_, show Try.prog.cellsOf 22 = 1 from by kernel_rfl, show List.range 2 = [0, 1] from rfl]
  refine Hand.eqi_cons (by go_simp; rfl) (by go_simp; rfl) (by go_simp) ?_
  exact Hand.eqi_last (by go_simp; rfl) (by go_simp; rfl) (by go_simp)
end Go.Proofs.Ytfhbeghmlfjfjaa.Print
