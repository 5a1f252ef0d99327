/- Bytes as a frame are the document's: any bytes ahead, any bytes (the first 5,000 each). -/
import Derived.Test.YtdaieafampimhaaSpecFrameAll
import Derived.Test.YtdaieafampimhaaPrint6
set_option linter.unusedVariables false
set_option linter.unusedSimpArgs false
namespace Go.Proofs.Ytdaieafampimhaa.Pure
open Go.RowKit Go.Proofs.Ytdaieafampimhaa.Print Go.Proofs.YtdaieafampimhaaW.PrintWords Go.Proofs.YtdaieafampimhaaW.PrintLast Go.Proofs.YtdaieafampimhaaW.PrintMore Go.Proofs.Ytdaieafampimhaa.Plain

theorem FramePuts : creellaw03_FramePuts.Pure := by
  intro b x _ _ hb _ _ hx
  have hb' : Bs b := fun y hy => wf_u8 (hb y hy)
  have hx' : Bs x := fun y hy => wf_u8 (hx y hy)
  have hbl : (b.take 5000).length ≤ 5000 := by rw [List.length_take]; omega
  refine Ev.rounds ?_
  unfold creellaw03_FramePuts.f
  simp only [few03 b hb', few03 x hx', Option.bind_some]
  refine Ev.bind (Put_ev (b.take 5000) (x.take 5000) (by omega)) (Ev.bind (ref_Put_ev (b.take 5000) (x.take 5000) (by omega) (hx'.take _)) (Ev.bind shown03_ev (all_ev fun k => ?_)))
  rw [if_pos (by trivial), if_pos (by trivial), beq_self_eq_true]

end Go.Proofs.Ytdaieafampimhaa.Pure
