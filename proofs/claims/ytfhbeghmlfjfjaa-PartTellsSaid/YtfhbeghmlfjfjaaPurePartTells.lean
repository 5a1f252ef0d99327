/- Which vertices are in a shard, and the shard of a vertex, are the document's: for every number of vertices, of shards, every shard and vertex. -/
import Derived.Test.YtfhbeghmlfjfjaaSpecPart
import Derived.Test.YtfhbeghmlfjfjaaPrint5
set_option linter.unusedVariables false
set_option linter.unusedSimpArgs false
namespace Go.Proofs.Ytfhbeghmlfjfjaa.Pure
open Go.RowKit Go.Proofs.Ytfhbeghmlfjfjaa.Print Go.Proofs.YtfhbeghmlfjfjaaW.PrintWords Go.Proofs.YtfhbeghmlfjfjaaW.PrintLast Go.Proofs.YtfhbeghmlfjfjaaW.PrintMore Go.Proofs.Ytfhbeghmlfjfjaa.Plain

theorem PartTells : creellaw19_PartTells.Pure := by
  intro n s k v _ _ _ _
  refine Ev.rounds ?_
  unfold creellaw19_PartTells.f
  simp only [Range_eq, refRange_eq, Option.bind_some]
  refine Ev.bind (Of_ev n s v) (Ev.bind (refOf_ev n s v) (Ev.bind shown19_ev (all_ev fun k => ?_)))
  simp

end Go.Proofs.Ytfhbeghmlfjfjaa.Pure
