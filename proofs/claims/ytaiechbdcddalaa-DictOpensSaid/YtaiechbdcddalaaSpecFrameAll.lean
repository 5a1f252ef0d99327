/- All frames, and the document's examples. -/
import Derived.Test.YtaiechbdcddalaaMathFrame
import Derived.Test.YtaiechbdcddalaaPrint4
set_option linter.unusedVariables false
set_option linter.unusedSimpArgs false
namespace Go.Proofs.Ytaiechbdcddalaa.Plain
open Go.RowKit Go.Proofs.YtaiechbdcddalaaW.PrintWords Go.Proofs.YtaiechbdcddalaaW.PrintLast Go.Proofs.YtaiechbdcddalaaW.PrintMore Go.Proofs.Ytaiechbdcddalaa.Print

theorem All_loop (b : List Int) (hb : Bs b) (hl : b.length ≤ 1000000) : ∀ (m : Nat) (at_ : Nat) (acc : List (List Int)), b.length ≤ m + at_ → at_ ≤ b.length → acc.length + b.length ≤ 5000000 + at_ →
    Ev (fun k => frame_All.l0 k b acc at_) (acc ++ (allF (b.drop at_)).1, ((at_ + (allF (b.drop at_)).2 : Nat) : Int)) := by
  intro m
  induction m with
  | zero =>
    intro at_ acc hm ha hc
    have h0 : b.drop at_ = [] := List.drop_eq_nil_of_le (by omega)
    have hne : (takeF []).2.2 ≠ 0 := by unfold takeF; decide
    rw [h0, allF_stop hne]
    have ht := take_ev [] (by simp) Bs.nil
    refine Ev.step (f := fun k => (frame_take.f k []).bind fun bt213 => (if bt213.2.2 = 0 then ((slices_Clone_byte_byte.f bt213.1).bind fun t218 => (if acc.length < 5864062014805 then (frame_All.l0 k b (acc ++ [t218]) (wrap64 ((at_ : Int) + bt213.2.1))) else (none))) else (some (acc, (at_ : Int))))) (fun k => ?_) (Ev.bind ht (all_ev fun k => ?_))
    · simp only [frame_All.l0]
      rw [if_pos (by omega), if_pos (by omega), Int.toNat_natCast, h0]
    · rw [if_neg hne]; simp
  | succ m ih =>
    intro at_ acc hm ha hc
    have ht := take_ev (b.drop at_) (by rw [List.length_drop]; omega) (hb.drop _)
    by_cases h : (takeF (b.drop at_)).2.2 = 0
    · obtain ⟨h1, h2, h3, h4⟩ := takeF_inv (hb.drop at_) h
      rw [List.length_drop] at h4
      rw [allF_step (hb.drop at_) h, List.drop_drop]
      have hx := h1.2
      refine Ev.step (f := fun k => (frame_take.f k (b.drop at_)).bind fun bt213 => (if bt213.2.2 = 0 then ((slices_Clone_byte_byte.f bt213.1).bind fun t218 => (if acc.length < 5864062014805 then (frame_All.l0 k b (acc ++ [t218]) (wrap64 ((at_ : Int) + bt213.2.1))) else (none))) else (some (acc, (at_ : Int))))) (fun k => ?_) (Ev.bind ht ?_)
      · simp only [frame_All.l0]
        rw [if_pos (by omega), if_pos (by omega), Int.toNat_natCast]
      · have := ih (at_ + ((takeF (b.drop at_)).1.length + 8)) (acc ++ [(takeF (b.drop at_)).1]) (by omega) (by omega) (by rw [List.length_append, List.length_singleton]; omega)
        refine Ev.congr (f := fun k => frame_All.l0 k b (acc ++ [(takeF (b.drop at_)).1]) ((at_ + ((takeF (b.drop at_)).1.length + 8) : Nat) : Int)) (fun k => ?_) (Ev.eq this ?_)
        · rw [if_pos h, clone_eq (by omega), Option.bind_some, if_pos (by omega), h2, w64_in (by omega) (by omega)]
          congr 1
        · rw [List.append_assoc]
          simp only [List.singleton_append]
          congr 2
          omega
    · rw [allF_stop h]
      refine Ev.step (f := fun k => (frame_take.f k (b.drop at_)).bind fun bt213 => (if bt213.2.2 = 0 then ((slices_Clone_byte_byte.f bt213.1).bind fun t218 => (if acc.length < 5864062014805 then (frame_All.l0 k b (acc ++ [t218]) (wrap64 ((at_ : Int) + bt213.2.1))) else (none))) else (some (acc, (at_ : Int))))) (fun k => ?_) (Ev.bind ht (all_ev fun k => ?_))
      · simp only [frame_All.l0]
        rw [if_pos (by omega), if_pos (by omega), Int.toNat_natCast]
      · rw [if_neg h]; simp
theorem All_ev (b : List Int) (hb : Bs b) (hl : b.length ≤ 1000000) : Ev (fun k => frame_All.f k b) ((allF b).1, ((allF b).2 : Int)) := by
  unfold frame_All.f
  have := All_loop b hb hl b.length 0 [] (by omega) (by omega) (by simp; omega)
  rw [List.drop_zero, List.nil_append, Nat.zero_add] at this
  exact this
end Go.Proofs.Ytaiechbdcddalaa.Plain
