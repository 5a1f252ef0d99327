/- A nil Shard has no vertices. -/
import Derived.Test.YtnkjbgoibmbmoaaSpecShard
import Derived.Test.YtnkjbgoibmbmoaaSpecFind18
import Derived.Test.YtnkjbgoibmbmoaaPrint5
set_option linter.unusedVariables false
set_option linter.unusedSimpArgs false
namespace Go.Proofs.Ytnkjbgoibmbmoaa.Pure
open Go.RowKit Go.Proofs.Ytnkjbgoibmbmoaa.Print Go.Proofs.YtnkjbgoibmbmoaaW.PrintWords Go.Proofs.YtnkjbgoibmbmoaaW.PrintLast Go.Proofs.YtnkjbgoibmbmoaaW.PrintMore Go.Proofs.Ytnkjbgoibmbmoaa.Plain

theorem ShardNil : creellaw18_ShardNil.Pure := by
  intro a0 a1 _ _
  obtain ⟨K1, h1⟩ := shown18_ev
  obtain ⟨K2, h2⟩ := has_ev none a0 a1 (by rw [shNext_none]; intro i j _ hj; exact absurd hj (Nat.not_lt_zero _)) (by rw [shNext_none]; exact Nat.zero_le _)
  refine ⟨K1 + K2, h1 _ (Nat.le_add_right _ _), ?_⟩
  have h := h2 (K1 + K2) (Nat.le_add_left _ _)
  rw [shNext_none] at h
  exact h

end Go.Proofs.Ytnkjbgoibmbmoaa.Pure
