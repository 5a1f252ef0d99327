/- What becomes of an edge, an edge as a record, and the edge that a record is, are the document's: any two vertices, any Config, any bytes (the first 20). -/
import Derived.Test.YtfhbeghmlfjfjaaSpecEdges
import Derived.Test.YtfhbeghmlfjfjaaPrint11
set_option linter.unusedVariables false
set_option linter.unusedSimpArgs false
namespace Go.Proofs.Ytfhbeghmlfjfjaa.Pure
open Go.RowKit Go.Proofs.Ytfhbeghmlfjfjaa.Print Go.Proofs.YtfhbeghmlfjfjaaW.PrintWords Go.Proofs.YtfhbeghmlfjfjaaW.PrintLast Go.Proofs.YtfhbeghmlfjfjaaW.PrintMore Go.Proofs.Ytfhbeghmlfjfjaa.Plain

theorem PartEdges : creellaw19_PartEdges.Pure := by
  intro a b c0 c1 c2 c3 c4 c5 c6 c7 c8 x ha hb _ _ _ _ _ _ hx
  obtain ⟨a0, a1⟩ := wf_u32 ha
  obtain ⟨b0, b1⟩ := wf_u32 hb
  obtain ⟨m, rfl⟩ := Int.eq_ofNat_of_zero_le a0
  obtain ⟨n, rfl⟩ := Int.eq_ofNat_of_zero_le b0
  have hx' : Bs x := fun y hy => wf_u8 (hx y hy)
  have hm : 0 ≤ mn (x.length : Int) 20 ∧ mn (x.length : Int) 20 ≤ (x.length : Int) ∧ mn (x.length : Int) 20 ≤ 20 := by unfold mn; split <;> omega
  obtain ⟨p, hp⟩ := Int.eq_ofNat_of_zero_le hm.1
  refine Ev.rounds ?_
  unfold creellaw19_PartEdges.f
  rw [hp] at hm ⊢
  have hy : Bs (x.take p) := hx'.take _
  have hl : (x.take p).length ≤ 20 := by rw [List.length_take]; omega
  refine ev_pos hm.1 (ev_pos hm.2.1 ?_)
  rw [Int.toNat_natCast]
  generalize x.take p = y at *
  have hs := same_ev (edgesS m n c3 c4) (by unfold edgesS; split <;> split <;> simp)
  refine ev_bind (Unkey_ev y hy (by omega)) (ev_bind (refUnkey_ev y hy (by omega)) (ev_bind shown19_ev (ev_pos rfl ?_)))
  refine ev_bind (Edges_ev m n c0 c1 c2 c3 c4 c5 c6 c7 c8) (ev_bind (refEdges_ev m n c0 c1 c2 c3 c4 c5 c6 c7 c8) (ev_bind hs (ev_pos rfl ?_)))
  refine ev_bind (Key_ev m n (by omega) (by omega)) (ev_bind (refKey_ev m n (by omega) (by omega)) (ev_pos rfl (ev_pos rfl (ev_pos rfl ?_))))
  refine Ev.step (fun k => creellaw19_PartEdges.j0.eq_2 _ _) ?_
  exact ev_val (beq_self_eq_true _)

end Go.Proofs.Ytfhbeghmlfjfjaa.Pure
