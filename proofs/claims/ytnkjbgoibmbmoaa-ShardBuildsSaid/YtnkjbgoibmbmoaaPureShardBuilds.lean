/- A file of vertices and their neighbours is the document's. -/
import Derived.Test.YtnkjbgoibmbmoaaSpecShard
import Derived.Test.YtnkjbgoibmbmoaaSpecRise18
import Derived.Test.YtnkjbgoibmbmoaaPrint8
set_option linter.unusedVariables false
set_option linter.unusedSimpArgs false
namespace Go.Proofs.Ytnkjbgoibmbmoaa.Pure
open Go.RowKit Go.Proofs.Ytnkjbgoibmbmoaa.Print Go.Proofs.YtnkjbgoibmbmoaaW.PrintWords Go.Proofs.YtnkjbgoibmbmoaaW.PrintLast Go.Proofs.YtnkjbgoibmbmoaaW.PrintMore Go.Proofs.Ytnkjbgoibmbmoaa.Plain

theorem ShardBuilds : creellaw18_ShardBuilds.Pure := by
  intro a0 l1 w0 hm hw
  have ha := wf_i64 w0
  have hu := wf_us hw
  obtain ⟨f1, f2⟩ := few60_us hu
  obtain ⟨r1, r2, r3, r4⟩ := riseL_facts hu
  have hm2 : l1.length ≤ 9223372036854775807 := hm
  refine Ev.rounds ?_
  unfold creellaw18_ShardBuilds.f
  refine ev_bind shown18_ev (ev_bind (few18_ev l1 hm2) (ev_bind (rise18_ev l1 hm2) (ev_some ?_)))
  have w1 : wrap64 ((0 : Int) + 1) = 1 := by rw [w64_in (by omega) (by omega)]; rfl
  have w2 : wrap64 ((1 : Int) + 1) = 2 := by rw [w64_in (by omega) (by omega)]; rfl
  refine Ev.step (fun k => creellaw18_ShardBuilds.l0.eq_2 _ _ _ _ _ _) ?_
  rw [show rd_L4 [few60 l1, riseL l1] 0 = few60 l1 from rfl, w1]
  refine ev_pos (by simp) (ev_pos (by omega) (ev_pos (by simp) (ev_bind (Build_ev a0 _ f1 (by omega) ha) (ev_bind (ref_Build_ev a0 _ f1 (by omega) ha) (ev_pos rfl (ev_pos rfl ?_))))))
  refine Ev.step (fun k => creellaw18_ShardBuilds.l0.eq_2 _ _ _ _ _ _) ?_
  rw [show rd_L4 [few60 l1, riseL l1] 1 = riseL l1 from rfl, w2]
  refine ev_pos (by simp) (ev_pos (by omega) (ev_pos (by simp) (ev_bind (Build_ev a0 _ r1 (by omega) ha) (ev_bind (ref_Build_ev a0 _ r1 (by omega) ha) (ev_pos rfl (ev_pos rfl ?_))))))
  refine Ev.step (fun k => creellaw18_ShardBuilds.l0.eq_2 _ _ _ _ _ _) ?_
  exact ev_neg (by simp) (ev_val rfl)

end Go.Proofs.Ytnkjbgoibmbmoaa.Pure
