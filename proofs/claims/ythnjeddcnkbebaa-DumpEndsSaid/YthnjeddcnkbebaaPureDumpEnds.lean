/- What yields false ends it, and the same function tells the same again. -/
import Derived.Test.YthnjeddcnkbebaaSpecDump
import Derived.Test.YthnjeddcnkbebaaPrint8
set_option linter.unusedVariables false
set_option linter.unusedSimpArgs false
namespace Go.Proofs.Ythnjeddcnkbebaa.Pure
open Go.RowKit Go.Proofs.Ythnjeddcnkbebaa.Print Go.Proofs.YthnjeddcnkbebaaW.PrintWords Go.Proofs.YthnjeddcnkbebaaW.PrintLast Go.Proofs.YthnjeddcnkbebaaW.PrintMore Go.Proofs.Ythnjeddcnkbebaa.Plain

theorem DumpEnds : creellaw10_DumpEnds.Pure := by
  intro l n _ _ _ hn
  have hn8 := wf_u8 hn
  have hb : (l.take 1000).length ≤ 1000 := List.length_take_le _ _
  obtain ⟨k1, h1⟩ := shown10_ev
  have hlen : ((Hand.itemsR S36.mk (l.take 1000)).take (n.toNat + 1)).length ≤ 10000000 := by
    have := itemsR_len (l.take 1000) (by omega)
    rw [List.length_take]; omega
  obtain ⟨k2, h2⟩ := sameAll_ev _ _ (rfl : (Hand.itemsR S36.mk (l.take 1000)).take (n.toNat + 1) = _) hlen
  exact ⟨max k1 k2, n.toNat, l.take 1000, (Int.toNat_of_nonneg hn8.1).symm, by omega, hb, few10 l, h1 _ (Nat.le_max_left _ _), h2 _ (Nat.le_max_right _ _)⟩

end Go.Proofs.Ythnjeddcnkbebaa.Pure
