/- What two labels share both begin with, the next bytes are unlike, and it is the same the other way about: any two. -/
import Derived.Test.YtgpacbklpmloaaaSpecWords
import Derived.Test.YtgpacbklpmloaaaPrint19
set_option linter.unusedVariables false
set_option linter.unusedSimpArgs false
namespace Go.Proofs.Ytgpacbklpmloaaa.Pure
open Go.RowKit Go.Proofs.Ytgpacbklpmloaaa.Print Go.Proofs.YtgpacbklpmloaaaW.PrintWords Go.Proofs.YtgpacbklpmloaaaW.PrintLast Go.Proofs.YtgpacbklpmloaaaW.PrintMore Go.Proofs.Ytgpacbklpmloaaa.Plain

theorem WordsShared : creellaw15_WordsShared.Pure := by
  intro a b _ ha _ _ hb _
  have hs := shN_le a b
  have hn := shN_next a b
  have ht := shN_take a b
  have hsw := Ev.eq (Shared_ev b a (by omega) (by omega)) (show ((shN b a : Nat) : Int) = (shN a b : Int) by rw [shN_comm])
  refine Ev.rounds ?_
  unfold creellaw15_WordsShared.f
  refine ev_bind shown15_ev (ev_bind (Shared_ev a b (by omega) (by omega)) ?_)
  generalize shN a b = n at *
  refine ev_neg (by omega) (ev_neg (by omega) (ev_neg (by omega) (ev_pos (by omega) (ev_pos (by omega) (ev_pos (by omega) ?_)))))
  rw [show ((strOfNums (a.take ((n : Int)).toNat)).toList != (strOfNums (b.take ((n : Int)).toNat)).toList) = false from by rw [Int.toNat_natCast, ht]; simp]
  refine Ev.step (fun k => creellaw15_WordsShared.j0.eq_2 _ _ _ _ _ _) ?_
  refine ev_neg (by decide) (ev_pos rfl ?_)
  by_cases h1 : n = a.length
  · exact ev_pos (by omega) (ev_bind hsw (ev_val (beq_self_eq_true _)))
  · refine ev_neg (by omega) ?_
    by_cases h2 : n = b.length
    · exact ev_pos (by omega) (ev_bind hsw (ev_val (beq_self_eq_true _)))
    · refine ev_neg (by omega) (ev_pos (by omega) (ev_pos (by omega) (ev_pos (by omega) (ev_neg ?_ (ev_bind hsw (ev_val (beq_self_eq_true _)))))))
      exact hn (by omega) (by omega)

end Go.Proofs.Ytgpacbklpmloaaa.Pure
