/- A vertex's neighbours in few bytes are the document's, as they are and in order: any vertex, any numbers (the first 200). -/
import Derived.Test.YtgpacbklpmloaaaSpecRise17
import Derived.Test.YtgpacbklpmloaaaPrint5
set_option linter.unusedVariables false
set_option linter.unusedSimpArgs false
namespace Go.Proofs.Ytgpacbklpmloaaa.Pure
open Go.RowKit Go.Proofs.Ytgpacbklpmloaaa.Print Go.Proofs.YtgpacbklpmloaaaW.PrintWords Go.Proofs.YtgpacbklpmloaaaW.PrintLast Go.Proofs.YtgpacbklpmloaaaW.PrintMore Go.Proofs.Ytgpacbklpmloaaa.Plain

theorem puts_round (v : Int) (hv : 0 ≤ v ∧ v < 4294967296) (y : List (List Int)) (i : Nat) (hi : i < y.length) (hy : y.length = 2) (hu : Us (rd_L2 y (i : Int))) (hl : (rd_L2 y (i : Int)).length ≤ 1000)
    (h : Ev (fun k => creellaw17_GapsPuts.l0 k v true y y.length ((i + 1 : Nat) : Int)) true) : Ev (fun k => creellaw17_GapsPuts.l0 k v true y y.length i) true := by
  have hw1 : wrap64 ((i : Int) + 1) = ((i + 1 : Nat) : Int) := by rw [w64_in (by omega) (by omega)]; omega
  refine Ev.step (fun k => creellaw17_GapsPuts.l0.eq_2 _ _ _ _ _ _) ?_
  rw [hw1]
  exact ev_pos (by omega) (ev_pos (by omega) (ev_pos (by omega) (ev_bind (gaps_Put_ev v hv _ hu (by omega)) (ev_bind (ref17_Put_ev v hv _ hu (by omega)) (ev_pos rfl (ev_pos rfl h))))))
theorem GapsPuts : creellaw17_GapsPuts.Pure := by
  intro v l hv _ _ hl
  have hv' := wf_u32 hv
  have hu : Us l := fun y hy => wf_u32 (hl y hy)
  obtain ⟨r1, r2, r3⟩ := rise17_facts hu
  refine Ev.rounds ?_
  unfold creellaw17_GapsPuts.f
  refine ev_bind shown17_ev (ev_got (few17 l) (ev_bind (rise17_ev l) (ev_some ?_)))
  refine puts_round v hv' [l.take 200, riseN (l.take 200)] 0 (by simp) rfl (hu.take 200) (by show (l.take 200).length ≤ _; rw [List.length_take]; omega) ?_
  refine puts_round v hv' [l.take 200, riseN (l.take 200)] 1 (by simp) rfl r2 (by show (riseN (l.take 200)).length ≤ _; omega) ?_
  refine Ev.step (fun k => creellaw17_GapsPuts.l0.eq_2 _ _ _ _ _ _) ?_
  exact ev_neg (by simp) (ev_val rfl)

end Go.Proofs.Ytgpacbklpmloaaa.Pure
