/- A number's bytes go on, as long as one of them is not there, and none is longer than ten bytes: for every number and every cut. -/
import Derived.Test.YtfhbeghmlfjfjaaSpecVaryLaws
set_option linter.unusedVariables false
set_option linter.unusedSimpArgs false
namespace Go.Proofs.Ytfhbeghmlfjfjaa.Pure
open Go.RowKit Go.Proofs.Ytfhbeghmlfjfjaa.Print Go.Proofs.YtfhbeghmlfjfjaaW.PrintWords Go.Proofs.YtfhbeghmlfjfjaaW.PrintLast Go.Proofs.YtfhbeghmlfjfjaaW.PrintMore Go.Proofs.Ytfhbeghmlfjfjaa.Plain

theorem VaryCut : creellaw01_VaryCut.Pure := by
  intro n at_ hn hat
  obtain ⟨hn0, hn1⟩ := wf_u64 hn
  obtain ⟨ha0, ha1⟩ := wf_u8 hat
  obtain ⟨m, rfl⟩ := Int.eq_ofNat_of_zero_le hn0
  have hm : m < 18446744073709551616 := by omega
  have hl1 := putN_ne m
  have hl10 := putN_len10 hm
  have hb := putN_bs m
  have hlt := Int.emod_lt_of_pos at_ (show (0 : Int) < ((putN m).length : Int) by omega)
  have hge := Int.emod_nonneg at_ (show ((putN m).length : Int) ≠ 0 by omega)
  refine Ev.rounds ?_
  unfold creellaw01_VaryCut.f
  refine Ev.bind shown1_ev (Ev.bind (vary_Put_ev [] m hm (by decide)) ?_)
  simp only [List.nil_append]
  rw [w64_in (by omega) (by omega), Int.tmod_eq_emod_of_nonneg ha0]
  refine Ev.congr (f := fun k => (vary_Take.f k ((putN m).take (at_ % ((putN m).length : Int)).toNat)).bind fun bt => (if bt.2.2 = 5 then (some ((bt.2.1.length : Int) == 0)) else (some false))) (fun k => ?_) ?_
  · rw [if_neg (by omega), if_neg (by omega), if_neg (by omega), if_pos (by omega), if_pos (by omega)]
    simp only [if_true]
  · refine Ev.bind (Ev.eq (vary_Take_ev _ (hb.take _) (by rw [List.length_take]; omega)) (takeN_cut hm (by omega))) (all_ev fun k => by simp)

end Go.Proofs.Ytfhbeghmlfjfjaa.Pure
