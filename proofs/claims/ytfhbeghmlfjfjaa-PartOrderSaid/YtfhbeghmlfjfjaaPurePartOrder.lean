/- Records of edges are in the order of what they are edges from, then to, and come back: for every two edges. -/
import Derived.Test.YtfhbeghmlfjfjaaSpecPart
import Derived.Test.YtfhbeghmlfjfjaaSpecKey
import Derived.Test.YtfhbeghmlfjfjaaPrint10
import Derived.Test.YtfhbeghmlfjfjaaPrint9
import Derived.Test.YtfhbeghmlfjfjaaPrint7
set_option linter.unusedVariables false
set_option linter.unusedSimpArgs false
namespace Go.Proofs.Ytfhbeghmlfjfjaa.Pure
open Go.RowKit Go.Proofs.Ytfhbeghmlfjfjaa.Print Go.Proofs.YtfhbeghmlfjfjaaW.PrintWords Go.Proofs.YtfhbeghmlfjfjaaW.PrintLast Go.Proofs.YtfhbeghmlfjfjaaW.PrintMore Go.Proofs.Ytfhbeghmlfjfjaa.Plain

theorem PartOrder : creellaw19_PartOrder.Pure := by
  intro a b c d ha hb hc hd
  obtain ⟨ha0, ha1⟩ := wf_u32 ha
  obtain ⟨hb0, hb1⟩ := wf_u32 hb
  obtain ⟨hc0, hc1⟩ := wf_u32 hc
  obtain ⟨hd0, hd1⟩ := wf_u32 hd
  obtain ⟨a', rfl⟩ := Int.eq_ofNat_of_zero_le ha0
  obtain ⟨b', rfl⟩ := Int.eq_ofNat_of_zero_le hb0
  obtain ⟨c', rfl⟩ := Int.eq_ofNat_of_zero_le hc0
  obtain ⟨d', rfl⟩ := Int.eq_ofNat_of_zero_le hd0
  refine Ev.rounds ?_
  unfold creellaw19_PartOrder.f
  refine Ev.bind shown19_ev (Ev.bind (Key_ev a' b' (by omega) (by omega)) (Ev.bind (Key_ev c' d' (by omega) (by omega)) ?_))
  have h256 : (256 : Nat) ^ 8 = 18446744073709551616 := by decide
  refine Ev.bind (Unkey_ev a' b' (by omega) (by omega)) (all_ev fun k => ?_)
  rw [less_lex (fixN_bs _ _) (fixN_bs _ _), lex_fix' (by omega) (by omega), fixN_len]
  rw [if_pos rfl, if_pos rfl, if_pos rfl, if_pos rfl]
  by_cases h1 : (a' : Int) < c'
  · rw [if_pos h1, decide_eq_true (by omega)]; rfl
  · rw [if_neg h1]
    by_cases h2 : (a' : Int) = c'
    · rw [if_pos h2]
      by_cases h3 : (b' : Int) < d'
      · rw [decide_eq_true h3, decide_eq_true (by omega)]; rfl
      · rw [decide_eq_false h3, decide_eq_false (by omega)]; rfl
    · rw [if_neg h2, decide_eq_false (by omega)]; rfl

end Go.Proofs.Ytfhbeghmlfjfjaa.Pure
