/- The neighbours that bytes are, are the document's: any vertex, any bytes (the first 500). -/
import Derived.Test.YtgpacbklpmloaaaSpecGaps
import Derived.Test.YtgpacbklpmloaaaPrint9
set_option linter.unusedVariables false
set_option linter.unusedSimpArgs false
namespace Go.Proofs.Ytgpacbklpmloaaa.Pure
open Go.RowKit Go.Proofs.Ytgpacbklpmloaaa.Print Go.Proofs.YtgpacbklpmloaaaW.PrintWords Go.Proofs.YtgpacbklpmloaaaW.PrintLast Go.Proofs.YtgpacbklpmloaaaW.PrintMore Go.Proofs.Ytgpacbklpmloaaa.Plain

theorem GapsTakes : creellaw17_GapsTakes.Pure := by
  intro v b hv _ _ hb
  have hv' := wf_u32 hv
  have hb' : Bs b := fun y hy => wf_u8 (hb y hy)
  have hmn : 0 ≤ mn (b.length : Int) 500 ∧ mn (b.length : Int) 500 ≤ (b.length : Int) ∧ mn (b.length : Int) 500 ≤ 500 := by unfold mn; split <;> omega
  obtain ⟨p, hp⟩ := Int.eq_ofNat_of_zero_le hmn.1
  refine Ev.rounds ?_
  unfold creellaw17_GapsTakes.f
  rw [hp] at hmn ⊢
  have hXb : Bs (b.take p) := hb'.take _
  have hXl : (b.take p).length ≤ 500 := by rw [List.length_take]; omega
  refine ev_pos (by omega) (ev_pos (by omega) ?_)
  rw [Int.toNat_natCast]
  generalize b.take p = X at *
  have hl : (gapsT v X).1.length ≤ 500 := by
    rcases gapsT_only hv'.1 hv'.2 hXb with ⟨l, _, _, h3, h4, _⟩ | h
    · rw [h4]; show l.length ≤ 500; omega
    · rw [h]; simp
  refine ev_bind (gaps_Take_ev v hv' X hXb (by omega)) (ev_bind (ref17_Take_ev v hv' X hXb (by omega)) (ev_bind shown17_ev (ev_pos rfl (ev_bind (same17_ev _ _ (by omega)) (ev_pos (decide_eq_true rfl) (ev_val (beq_self_eq_true _)))))))

end Go.Proofs.Ytgpacbklpmloaaa.Pure
