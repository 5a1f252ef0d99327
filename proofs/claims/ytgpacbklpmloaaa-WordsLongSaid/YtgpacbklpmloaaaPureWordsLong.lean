/- Labels have no more bytes in a block than they have themselves, two more each, and one; what two of them share is there once: any labels (the first 20, of up to 32 bytes; put in order, each once, at most 16). -/
import Derived.Test.YtgpacbklpmloaaaSpecSorted
import Derived.Test.YtgpacbklpmloaaaPrint21
set_option linter.unusedVariables false
set_option linter.unusedSimpArgs false
namespace Go.Proofs.Ytgpacbklpmloaaa.Pure
open Go.RowKit Go.Proofs.Ytgpacbklpmloaaa.Print Go.Proofs.YtgpacbklpmloaaaW.PrintWords Go.Proofs.YtgpacbklpmloaaaW.PrintLast Go.Proofs.YtgpacbklpmloaaaW.PrintMore Go.Proofs.Ytgpacbklpmloaaa.Plain

theorem long_loop (L : List (List Int)) (P : List Int) (h16 : L.length ≤ 16) (hx : ∀ x ∈ L, x.length ≤ 32) : ∀ (d i : Nat) (n : Int), i + d = L.length → 0 ≤ n → n ≤ 1 + 34 * i →
    n + wordsLen (if i = 0 then [] else L.getD (i - 1) []) (L.drop i) = P.length → Ev (fun k => creellaw15_WordsLong.l0 k true L P 0 n L (L.length : Int) i) true := by
  intro d
  induction d with
  | zero =>
    intro i n hi h0 hn hT
    rw [List.drop_eq_nil_of_le (by omega)] at hT
    refine Ev.step (fun k => creellaw15_WordsLong.l0.eq_2 _ _ _ _ _ _ _ _ _) (ev_neg (by omega) (ev_pos rfl (ev_pos rfl (ev_val ?_))))
    rw [beq_iff_eq]
    simp only [wordsLen] at hT
    omega
  | succ d ih =>
    intro i n hi h0 hn hT
    have hw : wrap64 ((i : Int) + 1) = ((i + 1 : Nat) : Int) := by rw [w64_in (by omega) (by omega)]; omega
    have hxi := hx _ (getD_mem (l := L) (i := i) (by omega))
    rw [getD_drop (by omega)] at hT
    rw [wordsLen] at hT
    have hn1 : wrap64 (n + wrap64 (2 + ((L.getD i []).length : Int))) = n + (2 + ((L.getD i []).length : Int)) := by
      rw [w64_in (n := 2 + ((L.getD i []).length : Int)) (by omega) (by omega), w64_in (by omega) (by omega)]
    refine Ev.step (fun k => creellaw15_WordsLong.l0.eq_2 _ _ _ _ _ _ _ _ _) ?_
    rw [hw]
    clear hw
    refine ev_pos (by omega) (ev_pos (by omega) (ev_pos (by omega) ?_))
    rw [rdw, hn1]
    clear hn1
    by_cases hi0 : (i : Int) > 0
    · have hm : wrap64 ((i : Int) - 1) = ((i - 1 : Nat) : Int) := by rw [w64_in (by omega) (by omega)]; omega
      have hxp := hx _ (getD_mem (l := L) (i := i - 1) (by omega))
      have hs := shN_le (L.getD (i - 1) []) (L.getD i [])
      have hn2 : wrap64 (n + (2 + ((L.getD i []).length : Int)) - (shN (L.getD (i - 1) []) (L.getD i []) : Int)) = n + (2 + ((L.getD i []).length : Int)) - (shN (L.getD (i - 1) []) (L.getD i []) : Int) := w64_in (by omega) (by omega)
      refine ev_pos hi0 ?_
      rw [hm]
      clear hm
      refine ev_pos (by omega) (ev_pos (by omega) ?_)
      rw [rdw]
      refine ev_bind (Shared_ev _ _ (by omega) (by omega)) ?_
      rw [hn2]
      clear hn2
      rw [if_neg (by omega)] at hT
      refine ih (i + 1) _ (by omega) (by omega) (by push_cast; omega) ?_
      rw [if_neg (by omega), Nat.add_sub_cancel]
      omega
    · obtain rfl : i = 0 := by omega
      refine ev_neg hi0 ?_
      rw [if_pos rfl, shN_nil, Nat.zero_add] at hT
      refine ih 1 _ (by omega) (by omega) (by omega) ?_
      rw [if_neg (by omega)]
      simp only [Nat.sub_self]
      omega
theorem WordsLong : creellaw15_WordsLong.Pure := by
  intro l hl hlb
  have hbl : Bsl l := fun x hx y hy => wf_u8 ((hlb x hx).2 y hy)
  have hl' : l.length ≤ 9223372036854775807 := hl
  obtain ⟨hB, h16, hx, hok, hL⟩ := riseR_facts hbl
  refine Ev.rounds ?_
  unfold creellaw15_WordsLong.f
  refine ev_bind shown15_ev (ev_bind (rise15_ev l hl') ?_)
  generalize riseR l = R at *
  by_cases h0 : (R.length : Int) = 0
  · exact ev_pos h0 (ev_val rfl)
  · refine ev_neg h0 (ev_bind (words_Put_ev R hB hL) ?_)
    rw [wordsP_ok (by omega) h16 hok]
    have hlen := wordsB_len R [] hok
    refine long_loop R _ h16 (fun x h => (hx x h).2) R.length 0 1 (by omega) (by omega) (by omega) ?_
    rw [List.drop_zero, if_pos rfl, List.length_append, putN_small (by omega)]
    simp only [List.length_singleton]
    omega

end Go.Proofs.Ytgpacbklpmloaaa.Pure
