/- The first 300 bytes. -/
import Derived.Test.YtgkmaogehbjjoaaSpecCrc
import Derived.Test.YtgkmaogehbjjoaaPrint1
set_option linter.unusedVariables false
set_option linter.unusedSimpArgs false
namespace Go.Proofs.Ytgkmaogehbjjoaa.Plain
open Go.RowKit Go.Proofs.Ytgkmaogehbjjoaa.Print Go.Proofs.YtgkmaogehbjjoaaW.PrintWords Go.Proofs.YtgkmaogehbjjoaaW.PrintLast Go.Proofs.YtgkmaogehbjjoaaW.PrintMore

theorem few02 (l : List Int) (hb : Bs l) : ∃ t, creellaw02_few.f l = some t ∧ Bs t ∧ t.length ≤ 300 := by
  refine ⟨l.take (mn (l.length : Int) 300).toNat, ?_, hb.take _, ?_⟩
  · unfold creellaw02_few.f mn
    by_cases h : 300 < (l.length : Int)
    · rw [if_pos h, if_pos (by omega), if_pos (by omega)]
    · rw [if_neg h, if_pos (by omega), if_pos (by omega)]
  · rw [List.length_take]; unfold mn; split <;> omega

end Go.Proofs.Ytgkmaogehbjjoaa.Plain
