/- The labels that bytes are, are the document's: any bytes (the first 700). -/
import Derived.Test.YtgpacbklpmloaaaSpecTake15
import Derived.Test.YtgpacbklpmloaaaSpecRefTake
import Derived.Test.YtgpacbklpmloaaaPrint24
set_option linter.unusedVariables false
set_option linter.unusedSimpArgs false
namespace Go.Proofs.Ytgpacbklpmloaaa.Pure
open Go.RowKit Go.Proofs.Ytgpacbklpmloaaa.Print Go.Proofs.YtgpacbklpmloaaaW.PrintWords Go.Proofs.YtgpacbklpmloaaaW.PrintLast Go.Proofs.YtgpacbklpmloaaaW.PrintMore Go.Proofs.Ytgpacbklpmloaaa.Plain

theorem words_short (l : List (List Int)) : ∀ (a : List Int), wordsOk a l = true → ∀ x ∈ l, x.length ≤ 32 := by
  induction l with
  | nil => intro a _ x hx; simp at hx
  | cons y l ih =>
    intro a h x hx
    unfold wordsOk at h
    rw [Bool.and_eq_true] at h
    rcases List.mem_cons.1 hx with rfl | hx
    · exact (wordOk_iff.1 h.1).2.1
    · exact ih y h.2 x hx
theorem Same12_loop (l : List (List Int)) (hl : l.length ≤ 1000) : ∀ (d i : Nat), i + d = l.length → Ev (fun k => creelref12_Same.l0 k l l i) true := by
  intro d
  induction d with
  | zero => intro i hi; exact Ev.step (fun k => creelref12_Same.l0.eq_2 _ _ _ _) (ev_neg (by omega) (ev_val rfl))
  | succ d ih =>
    intro i hi
    have hw : wrap64 ((i : Int) + 1) = ((i + 1 : Nat) : Int) := by rw [w64_in (by omega) (by omega)]; omega
    refine Ev.step (fun k => creelref12_Same.l0.eq_2 _ _ _ _) ?_
    rw [hw]
    clear hw
    exact ev_pos (by omega) (ev_pos (by omega) (ev_pos (by omega) (ev_pos rfl (ih (i + 1) (by omega)))))
theorem Same12_ev (l : List (List Int)) (hl : l.length ≤ 1000) : Ev (fun k => creelref12_Same.f k l l) true := by
  unfold creelref12_Same.f
  exact ev_pos rfl (Same12_loop l hl l.length 0 (by omega))
theorem WordsTakes : creellaw15_WordsTakes.Pure := by
  intro b _ _ hb
  have hb' : Bs b := fun y hy => wf_u8 (hb y hy)
  have hm : 0 ≤ mn (b.length : Int) 700 ∧ mn (b.length : Int) 700 ≤ (b.length : Int) ∧ mn (b.length : Int) 700 ≤ 700 := by unfold mn; split <;> omega
  obtain ⟨p, hp⟩ := Int.eq_ofNat_of_zero_le hm.1
  refine Ev.rounds ?_
  unfold creellaw15_WordsTakes.f
  rw [hp] at hm ⊢
  rw [Int.toNat_natCast]
  have hX : Bs (b.take p) := hb'.take _
  have hXl : (b.take p).length ≤ 700 := by rw [List.length_take]; omega
  generalize b.take p = X at *
  have hs : (wordsT X).1.length ≤ 16 ∧ ∀ x ∈ (wordsT X).1, x.length ≤ 32 := by
    rcases wordsT_only hX with ⟨l, hl, h1, h16, hok, hT, hXe⟩ | hT
    · rw [hT]; exact ⟨h16, words_short l [] hok⟩
    · rw [hT]; simp
  refine ev_pos hm.1 (ev_pos hm.2.1 (ev_bind (words_Take_ev X hX (by omega)) (ev_bind (ref15_Take_ev X hX (by omega)) (ev_bind shown15_ev (ev_pos rfl (ev_bind (Same12_ev _ (by omega)) (ev_pos rfl (ev_val (beq_self_eq_true _)))))))))

end Go.Proofs.Ytgpacbklpmloaaa.Pure
