/- Edges as bytes, and the edges that bytes are, are the document's. -/
import Derived.Test.YthnjeddcnkbebaaSpecDump
import Derived.Test.YthnjeddcnkbebaaPrint7
import Derived.Test.YthnjeddcnkbebaaPrint6
set_option linter.unusedVariables false
set_option linter.unusedSimpArgs false
namespace Go.Proofs.Ythnjeddcnkbebaa.Pure
open Go.RowKit Go.Proofs.Ythnjeddcnkbebaa.Print Go.Proofs.YthnjeddcnkbebaaW.PrintWords Go.Proofs.YthnjeddcnkbebaaW.PrintLast Go.Proofs.YthnjeddcnkbebaaW.PrintMore Go.Proofs.Ythnjeddcnkbebaa.Plain

theorem DumpTells : creellaw10_DumpTells.Pure := by
  intro l b _ hl _ _ _
  refine Ev.rounds ?_
  obtain ⟨h1, h2, h3⟩ := mn100 l
  have hw : WfE (l.take (mn (l.length : Int) 100).toNat) := (wfE_of hl).take _
  have hn : (l.take (mn (l.length : Int) 100).toNat).length ≤ 1000 := by rw [List.length_take]; omega
  have hb : (b.take 1000).length ≤ 1000000 := by rw [List.length_take]; omega
  have hr : creelref10_List.f (b.take 1000) = some (Hand.itemsR S36.mk (b.take 1000)) := by unfold creelref10_List.f; rw [if_pos hb]
  unfold creellaw10_DumpTells.f
  refine ev_pos h2 (ev_pos h3 (ev_some (ev_got (few10 b) (ev_got (list10 _ hb) (ev_bind shown10_ev (ev_pos rfl (ev_pos rfl ?_)))))))
  generalize l.take (mn (l.length : Int) 100).toNat = x at *
  refine ev_bind (dump_Put_ev x hw hn) (ev_bind (ref_Put_ev x hw hn) (ev_pos rfl (ev_got (few10 b) (ev_got hr (ev_bind (sameAll_ev _ _ rfl ?_) ?_)))))
  · exact Nat.le_trans (itemsR_len _ hb) (by decide)
  · exact some_ev fun k => by rw [creellaw10_DumpTells.j0]

end Go.Proofs.Ythnjeddcnkbebaa.Pure
