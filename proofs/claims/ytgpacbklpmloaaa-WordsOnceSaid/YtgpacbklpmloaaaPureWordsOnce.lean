/- Bytes that are taken are those that their labels are put as, and the labels rise: any bytes (the first 700). -/
import Derived.Test.YtgpacbklpmloaaaSpecTake15
import Derived.Test.YtgpacbklpmloaaaPrint23
set_option linter.unusedVariables false
set_option linter.unusedSimpArgs false
namespace Go.Proofs.Ytgpacbklpmloaaa.Pure
open Go.RowKit Go.Proofs.Ytgpacbklpmloaaa.Print Go.Proofs.YtgpacbklpmloaaaW.PrintWords Go.Proofs.YtgpacbklpmloaaaW.PrintLast Go.Proofs.YtgpacbklpmloaaaW.PrintMore Go.Proofs.Ytgpacbklpmloaaa.Plain

theorem rise_at (l : List (List Int)) : ∀ (a : List Int) (i : Nat), wordsOk a l = true → i + 1 < l.length → lexLess (l.getD i []) (l.getD (i + 1) []) = true := by
  induction l with
  | nil => intro a i _ h; simp at h
  | cons x l ih =>
    intro a i h hi
    unfold wordsOk at h
    rw [Bool.and_eq_true] at h
    cases i with
    | succ i =>
      have := ih x i h.2 (by simpa using hi)
      simpa using this
    | zero =>
      cases l with
      | nil => simp at hi
      | cons y l =>
        have h2 := h.2
        unfold wordsOk at h2
        rw [Bool.and_eq_true] at h2
        have h3 := (wordOk_iff.1 h2.1).2.2
        simpa using h3
theorem words_short (l : List (List Int)) : ∀ (a : List Int), wordsOk a l = true → ∀ x ∈ l, x.length ≤ 32 := by
  induction l with
  | nil => intro a _ x hx; simp at hx
  | cons y l ih =>
    intro a h x hx
    unfold wordsOk at h
    rw [Bool.and_eq_true] at h
    rcases List.mem_cons.1 hx with rfl | hx
    · exact (wordOk_iff.1 h.1).2.1
    · exact ih y h.2 x hx
theorem once_loop (X : List Int) (l : List (List Int)) (hb : Bsl l) (h1 : 1 ≤ l.length) (h16 : l.length ≤ 16) (hok : wordsOk [] l = true) (hX : X = (wordsP l).1) : ∀ (d i : Nat), i + d = l.length →
    Ev (fun k => creellaw15_WordsOnce.l0 k true X l (wordsP l).1 (wordsP l).2 (l.length : Int) i) true := by
  intro d
  induction d with
  | zero =>
    intro i hi
    refine Ev.step (fun k => creellaw15_WordsOnce.l0.eq_2 _ _ _ _ _ _ _ _) ?_
    refine ev_neg (by omega) (ev_pos rfl (ev_pos (by rw [wordsP_ok h1 h16 hok]) (ev_pos (by rw [← hX]) (ev_pos (by omega) (ev_val ?_)))))
    exact decide_eq_true (by omega)
  | succ d ih =>
    intro i hi
    have hw : wrap64 ((i : Int) + 1) = ((i + 1 : Nat) : Int) := by rw [w64_in (by omega) (by omega)]; omega
    have hgo := ih (i + 1) (by omega)
    refine Ev.step (fun k => creellaw15_WordsOnce.l0.eq_2 _ _ _ _ _ _ _ _) ?_
    rw [hw]
    clear hw
    refine ev_pos (by omega) ?_
    by_cases h0 : (i : Int) > 0
    · have hm : wrap64 ((i : Int) - 1) = ((i - 1 : Nat) : Int) := by rw [w64_in (by omega) (by omega)]; omega
      have hr := rise_at l [] (i - 1) hok (by omega)
      rw [show i - 1 + 1 = i by omega] at hr
      refine ev_pos h0 ?_
      rw [hm]
      clear hm
      refine ev_pos (by omega) (ev_pos (by omega) (ev_pos (by omega) (ev_pos (by omega) (ev_pos ?_ hgo))))
      rw [rdw, rdw, less_lex (hb _ (getD_mem (by omega))) (hb _ (getD_mem (by omega)))]
      exact hr
    · exact ev_neg h0 hgo
theorem WordsOnce : creellaw15_WordsOnce.Pure := by
  intro b _ _ hb
  have hb' : Bs b := fun y hy => wf_u8 (hb y hy)
  have hm : 0 ≤ mn (b.length : Int) 700 ∧ mn (b.length : Int) 700 ≤ (b.length : Int) ∧ mn (b.length : Int) 700 ≤ 700 := by unfold mn; split <;> omega
  obtain ⟨p, hp⟩ := Int.eq_ofNat_of_zero_le hm.1
  refine Ev.rounds ?_
  unfold creellaw15_WordsOnce.f
  rw [hp] at hm ⊢
  rw [Int.toNat_natCast]
  have hX : Bs (b.take p) := hb'.take _
  have hXl : (b.take p).length ≤ 700 := by rw [List.length_take]; omega
  generalize b.take p = X at *
  refine ev_bind shown15_ev (ev_pos hm.1 (ev_pos hm.2.1 ?_))
  have ht := words_Take_ev X hX (by omega)
  rcases wordsT_only hX with ⟨l, hl, h1, h16, hok, hT, hXe⟩ | hT
  · rw [hT] at ht
    have hlens : Lens l := ⟨by omega, fun x hx => by have := words_short l [] hok x hx; omega⟩
    refine ev_bind ht (ev_pos rfl (ev_bind (words_Put_ev l hl hlens) ?_))
    exact once_loop X l hl h1 h16 hok hXe l.length 0 (by omega)
  · rw [hT] at ht
    exact ev_bind ht (ev_neg (by decide) (ev_pos rfl (ev_val rfl)))

end Go.Proofs.Ytgpacbklpmloaaa.Pure
