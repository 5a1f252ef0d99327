/- What is taken is the document's: one frame and what is left, all frames, and those alone: any bytes (the first 5,000). -/
import Derived.Test.YtdaieafampimhaaSpecRef03
import Derived.Test.YtdaieafampimhaaSpecTurn
import Derived.Test.YtdaieafampimhaaSpecWalk
import Derived.Test.YtdaieafampimhaaPrint17
set_option linter.unusedVariables false
set_option linter.unusedSimpArgs false
namespace Go.Proofs.Ytdaieafampimhaa.Pure
open Go.RowKit Go.Proofs.Ytdaieafampimhaa.Print Go.Proofs.YtdaieafampimhaaW.PrintWords Go.Proofs.YtdaieafampimhaaW.PrintLast Go.Proofs.YtdaieafampimhaaW.PrintMore Go.Proofs.Ytdaieafampimhaa.Plain

theorem FrameTakes : creellaw03_FrameTakes.Pure := by
  intro b _ _ hb
  have hb' : Bs b := fun y hy => wf_u8 (hb y hy)
  have hf := few03 b hb'
  have hX : Bs (b.take 5000) := hb'.take _
  have hl : (b.take 5000).length ≤ 5000 := by rw [List.length_take]; omega
  refine Ev.rounds ?_
  unfold creellaw03_FrameTakes.f
  generalize b.take 5000 = X at *
  refine ev_got hf (ev_bind (Take_ev X (by omega) hX) (ev_got hf (ev_bind (ref_Take_ev X (by omega) hX) ?_)))
  refine ev_got hf (ev_bind (All_ev X hX (by omega)) (ev_got hf (ev_bind (ref_All_ev X hX (by omega)) ?_)))
  refine ev_got hf (ev_bind (Only_ev X hX (by omega)) (ev_got hf (ev_bind (ref_Only_ev X hX (by omega)) ?_)))
  have hlen := allF_len hX
  have hbs := allF_bss hX
  have s1 := Same_ev (allF X).1 (allF X).1 hbs hbs (by omega)
  have ho : Bss (onlyF X).1 ∧ (onlyF X).1.length ≤ 5000 := by
    unfold onlyF
    by_cases h : (allF X).2 < X.length
    · rw [if_pos h]; exact ⟨fun x hx => absurd hx (by simp), by simp⟩
    · rw [if_neg h]; exact ⟨hbs, by show (allF X).1.length ≤ 5000; omega⟩
  have s2 := Same_ev (onlyF X).1 (onlyF X).1 ho.1 ho.1 (by have := ho.2; omega)
  rw [decide_eq_true rfl] at s1 s2
  refine ev_bind shown03_ev (ev_pos rfl (ev_pos rfl (ev_pos rfl (ev_pos rfl (ev_bind s1 (ev_pos rfl (ev_pos rfl (ev_bind s2 (ev_pos rfl ?_)))))))))
  refine Ev.step (fun k => creellaw03_FrameTakes.j0.eq_2 _ _) ?_
  exact ev_val (beq_self_eq_true _)

end Go.Proofs.Ytdaieafampimhaa.Pure
