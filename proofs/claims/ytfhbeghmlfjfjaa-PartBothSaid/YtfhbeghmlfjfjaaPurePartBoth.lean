/- What becomes of edges, with Both, is the same from the other end, and what is an edge already stays one: any two vertices, any Config. -/
import Derived.Test.YtfhbeghmlfjfjaaSpecPart
import Derived.Test.YtfhbeghmlfjfjaaSpecWalk
import Derived.Test.YtfhbeghmlfjfjaaPrint3
set_option linter.unusedVariables false
set_option linter.unusedSimpArgs false
namespace Go.Proofs.Ytfhbeghmlfjfjaa.Pure
open Go.RowKit Go.Proofs.Ytfhbeghmlfjfjaa.Print Go.Proofs.YtfhbeghmlfjfjaaW.PrintWords Go.Proofs.YtfhbeghmlfjfjaaW.PrintLast Go.Proofs.YtfhbeghmlfjfjaaW.PrintMore Go.Proofs.Ytfhbeghmlfjfjaa.Plain

theorem PartBoth : creellaw19_PartBoth.Pure := by
  intro a b c0 c1 c2 both loops c5 c6 c7 c8 _ _ _ _ _ _
  refine Ev.rounds ?_
  unfold creellaw19_PartBoth.f
  refine ev_bind shown19_ev (ev_bind (Edges_ev a b c0 c1 c2 both loops c5 c6 c7 c8) ?_)
  by_cases h : a = b
  · subst h
    refine ev_pos rfl (ev_pos rfl ?_)
    cases loops with
    | false => exact ev_pos (by simp [edgesS]) (ev_pos (by simp [edgesS]) (ev_val rfl))
    | true => exact ev_pos (by simp [edgesS]) (ev_neg (by simp [edgesS]) (ev_pos (by simp [edgesS]) (ev_pos (by simp [edgesS, rd_T28]) (ev_val (by simp [edgesS])))))
  · have h' : ¬ b = a := fun e => h e.symm
    have e1 : edgesS a b both loops = if both = true then [⟨a, b⟩, ⟨b, a⟩] else [⟨a, b⟩] := by unfold edgesS; rw [if_neg h]
    have e2 : edgesS b a both loops = if both = true then [⟨b, a⟩, ⟨a, b⟩] else [⟨b, a⟩] := by unfold edgesS; rw [if_neg h']
    refine ev_neg h ?_
    cases both with
    | false =>
      rw [if_neg (by decide)] at e1 e2
      rw [e1]
      refine ev_neg (by simp) (ev_pos (by simp) ?_)
      rw [show (!((rd_T28 ([⟨a, b⟩] : List S28) 0).f0 == a) || (!((rd_T28 ([⟨a, b⟩] : List S28) 0).f1 == b))) = false from by simp [rd_T28]]
      refine Ev.step (fun k => creellaw19_PartBoth.j0.eq_2 _ _ _ _ _ _ _ _ _ _ _ _ _ _ _) ?_
      refine ev_neg (by decide) (ev_bind (Edges_ev b a c0 c1 c2 false loops c5 c6 c7 c8) ?_)
      rw [e2]
      exact ev_pos rfl (ev_pos (by simp) (ev_neg (by decide) (ev_val (by simp))))
    | true =>
      rw [if_pos rfl] at e1 e2
      rw [e1]
      refine ev_neg (by simp) (ev_pos (by simp) ?_)
      rw [show (!((rd_T28 ([⟨a, b⟩, ⟨b, a⟩] : List S28) 0).f0 == a) || (!((rd_T28 ([⟨a, b⟩, ⟨b, a⟩] : List S28) 0).f1 == b))) = false from by simp [rd_T28]]
      refine Ev.step (fun k => creellaw19_PartBoth.j0.eq_2 _ _ _ _ _ _ _ _ _ _ _ _ _ _ _) ?_
      refine ev_neg (by decide) (ev_bind (Edges_ev b a c0 c1 c2 true loops c5 c6 c7 c8) ?_)
      rw [e2]
      exact ev_pos rfl (ev_pos (by simp) (ev_pos rfl (ev_pos (by simp) (ev_pos (by simp) (ev_pos (by simp) (ev_pos (by simp [rd_T28]) (ev_pos (by simp) (ev_pos (by simp) (ev_pos (by simp [rd_T28]) (ev_val rfl))))))))))

end Go.Proofs.Ytfhbeghmlfjfjaa.Pure
