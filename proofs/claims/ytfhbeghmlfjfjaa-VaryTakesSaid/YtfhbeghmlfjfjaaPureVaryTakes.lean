/- The number that bytes begin with, and the bytes behind it, are the document's: for any bytes (the first 200) and any size. -/
import Derived.Test.YtfhbeghmlfjfjaaSpecVaryLaws
import Derived.Test.YtfhbeghmlfjfjaaPrint15
import Derived.Test.YtfhbeghmlfjfjaaPrint12
set_option linter.unusedVariables false
set_option linter.unusedSimpArgs false
namespace Go.Proofs.Ytfhbeghmlfjfjaa.Pure
open Go.RowKit Go.Proofs.Ytfhbeghmlfjfjaa.Print Go.Proofs.YtfhbeghmlfjfjaaW.PrintWords Go.Proofs.YtfhbeghmlfjfjaaW.PrintLast Go.Proofs.YtfhbeghmlfjfjaaW.PrintMore Go.Proofs.Ytfhbeghmlfjfjaa.Plain

theorem VaryTakes : creellaw01_VaryTakes.Pure := by
  intro l size hl hl8 hw hs
  obtain ⟨hs0, _⟩ := wf_i64 hs
  have hb : Bs l := fun x hx => wf_u8 (hw x hx)
  have hsome : creellaw01_some.f l = some (l.take (mn (l.length : Int) 200).toNat) := by
    unfold creellaw01_some.f mn
    by_cases h : 200 < (l.length : Int)
    · rw [if_pos h, if_pos (by omega), if_pos (by omega)]
    · rw [if_neg h, if_pos (by omega), if_pos (by omega)]
  have hbt := hb.take (mn (l.length : Int) 200).toNat
  have hlt : (l.take (mn (l.length : Int) 200).toNat).length ≤ 140737488355000 := by rw [List.length_take]; omega
  generalize l.take (mn (l.length : Int) 200).toNat = t at hsome hbt hlt
  refine Ev.rounds ?_
  unfold creellaw01_VaryTakes.f
  simp only [hsome, Option.bind_some]
  refine Ev.bind (vary_Take_ev t hbt hlt) (Ev.bind (ref_Take_ev t hbt hlt) (Ev.bind (vary_Unfix_ev t size hbt hlt hs0) (Ev.bind (ref_Unfix_ev t size hbt hlt hs0) (Ev.bind shown1_ev (all_ev fun k => ?_)))))
  simp

end Go.Proofs.Ytfhbeghmlfjfjaa.Pure
