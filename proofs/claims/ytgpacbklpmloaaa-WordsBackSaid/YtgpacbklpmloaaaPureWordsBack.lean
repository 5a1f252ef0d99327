/- What was put is taken, and cut it is not: any labels (the first 20, of up to 32 bytes; put in order, each once, at most 16), where it is cut. -/
import Derived.Test.YtgpacbklpmloaaaSpecSorted
import Derived.Test.YtgpacbklpmloaaaSpecTake15
import Derived.Test.YtgpacbklpmloaaaSpecRefTake
import Derived.Test.YtgpacbklpmloaaaPrint25
set_option linter.unusedVariables false
set_option linter.unusedSimpArgs false
namespace Go.Proofs.Ytgpacbklpmloaaa.Pure
open Go.RowKit Go.Proofs.Ytgpacbklpmloaaa.Print Go.Proofs.YtgpacbklpmloaaaW.PrintWords Go.Proofs.YtgpacbklpmloaaaW.PrintLast Go.Proofs.YtgpacbklpmloaaaW.PrintMore Go.Proofs.Ytgpacbklpmloaaa.Plain

theorem wordsLen_le (l : List (List Int)) : ∀ a, (∀ x ∈ l, x.length ≤ 32) → wordsLen a l ≤ 34 * l.length := by
  induction l with
  | nil => intro a _; simp [wordsLen]
  | cons x l ih =>
    intro a h
    have h1 := h x List.mem_cons_self
    have h2 := ih x (fun y hy => h y (List.mem_cons_of_mem _ hy))
    rw [wordsLen, List.length_cons]
    push_cast
    omega
theorem WordsBack : creellaw15_WordsBack.Pure := by
  intro l at_ hl hlb hat
  have hbl : Bsl l := fun x hx y hy => wf_u8 ((hlb x hx).2 y hy)
  have hl' : l.length ≤ 9223372036854775807 := hl
  obtain ⟨hB, h16, hx, hok, hL⟩ := riseR_facts hbl
  refine Ev.rounds ?_
  unfold creellaw15_WordsBack.f
  refine ev_bind shown15_ev (ev_bind (rise15_ev l hl') ?_)
  generalize riseR l = R at *
  refine ev_bind (words_Put_ev R hB hL) ?_
  by_cases h0 : (R.length : Int) = 0
  · obtain rfl : R = [] := List.eq_nil_of_length_eq_zero (by omega)
    refine ev_pos h0 (ev_pos rfl (ev_pos ?_ (ev_val ?_))) <;> decide
  · have hP := wordsP_ok (by omega) h16 hok
    have hT := wordsT_put (by omega) h16 hok
    have hM := wordsT_more (by omega) h16 hok 0
    have hC := @wordsT_cut R (by omega) h16 hok
    have hPb := wordsP_bs hB
    have hlen := wordsB_len R [] hok
    have hle := wordsLen_le R [] (fun x h => (hx x h).2)
    have hPl : (wordsP R).1.length = 1 + (wordsB [] R).length := by rw [hP]; simp only [List.length_append, putN_small (show R.length < 128 by omega), List.length_singleton]
    refine ev_neg h0 (ev_pos (by rw [hP]) ?_)
    generalize (wordsP R).1 = X at *
    have ha0 := wf_u16 hat
    have hw : wrap64 at_ = at_ := w64_in (by omega) (by omega)
    have hmod : Int.tmod at_ (X.length : Int) = ((at_.toNat % X.length : Nat) : Int) := by
      obtain ⟨m, rfl⟩ := Int.eq_ofNat_of_zero_le ha0.1
      rfl
    have hlt : at_.toNat % X.length < X.length := Nat.mod_lt _ (by omega)
    have hne : ((X.length : Int) == 0) = false := beq_eq_false_iff_ne.mpr (by omega)
    rw [hne]
    refine Ev.step (fun k => creellaw15_WordsBack.j0.eq_2 _ _ _ _ _ _) (ev_neg (by decide) ?_)
    rw [hw, hmod, Int.toNat_natCast]
    clear hw hmod
    generalize at_.toNat % X.length = j at *
    refine ev_bind (Ev.eq (words_Take_ev X hPb (by omega)) hT) (ev_neg (by omega) (ev_pos (by omega) (ev_pos (by omega) ?_)))
    refine ev_bind (Ev.eq (words_Take_ev (X.take j) (hPb.take _) (by rw [List.length_take]; omega)) (hC hlt)) ?_
    refine ev_some (ev_pos (by simp only [List.length_nil]; omega) (ev_some (ev_pos (by rw [List.nil_append]; omega) ?_)))
    rw [List.nil_append]
    refine ev_bind (Ev.eq (words_Take_ev (X ++ [0]) (hPb.append (fun y hy => by rw [List.mem_singleton.1 hy]; omega)) (by rw [List.length_append, List.length_singleton]; omega)) hM) ?_
    exact ev_pos rfl (ev_pos rfl (ev_bind (Same12_ev R (by omega)) (ev_pos rfl (ev_pos rfl (ev_val rfl)))))

end Go.Proofs.Ytgpacbklpmloaaa.Pure
