/- Labels in few bytes, and what two of them share, are the document's: any labels (the first 20, of up to 40 bytes), any two. -/
import Derived.Test.YtgpacbklpmloaaaSpecWords
import Derived.Test.YtgpacbklpmloaaaPrint18
set_option linter.unusedVariables false
set_option linter.unusedSimpArgs false
namespace Go.Proofs.Ytgpacbklpmloaaa.Pure
open Go.RowKit Go.Proofs.Ytgpacbklpmloaaa.Print Go.Proofs.YtgpacbklpmloaaaW.PrintWords Go.Proofs.YtgpacbklpmloaaaW.PrintLast Go.Proofs.YtgpacbklpmloaaaW.PrintMore Go.Proofs.Ytgpacbklpmloaaa.Plain

theorem WordsPuts : creellaw15_WordsPuts.Pure := by
  intro l a b hl hlb _ ha _ _ hb _
  have hbl : Bsl l := fun x hx y hy => wf_u8 ((hlb x hx).2 y hy)
  have hl' : l.length ≤ 9223372036854775807 := hl
  refine Ev.rounds ?_
  unfold creellaw15_WordsPuts.f
  have hF := few15_bs hbl
  have hL := few15_lens l
  refine ev_bind (few15_ev l hl') (ev_bind (words_Put_ev _ hF hL) (ev_bind (few15_ev l hl') (ev_bind (ref15_Put_ev _ hF hL) (ev_bind shown15_ev (ev_pos rfl (ev_pos rfl (ev_pos rfl ?_)))))))
  exact ev_bind (Shared_ev a b (by omega) (by omega)) (ev_bind (ref_Shared_ev a b (by omega) (by omega)) (ev_val (beq_self_eq_true _)))

end Go.Proofs.Ytgpacbklpmloaaa.Pure
