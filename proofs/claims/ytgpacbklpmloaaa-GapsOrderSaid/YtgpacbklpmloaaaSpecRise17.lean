/- Numbers that rise, of some (the statements of layer 17). -/
import Derived.Test.YtgpacbklpmloaaaSpecGaps
import Derived.Test.YtgpacbklpmloaaaPrint2
set_option linter.unusedVariables false
set_option linter.unusedSimpArgs false
namespace Go.Proofs.Ytgpacbklpmloaaa.Plain
open Go.RowKit Go.Proofs.YtgpacbklpmloaaaW.PrintWords Go.Proofs.YtgpacbklpmloaaaW.PrintLast Go.Proofs.YtgpacbklpmloaaaW.PrintMore Go.Proofs.Ytgpacbklpmloaaa.Print

def insAt (out : List Int) (n : Int) (K : Nat) : List Int := if 0 < K ∧ out.getD (K - 1) 0 = n then out else out.take K ++ n :: out.drop K
theorem insN_at (out : List Int) (n : Int) : insN out n = insAt out n (backK out n out.length) := rfl
theorem rise_back (out xs : List Int) (n r len : Int) (R : List Int) (hl : out.length ≤ 1000) (i : Nat) (hi : i < 100000) : ∀ kk : Nat, kk ≤ out.length →
    Ev (fun k => creellaw17_rise.l0 k (insAt out n (backK out n kk)) xs len ((i + 1 : Nat) : Int)) R → Ev (fun k => creellaw17_rise.l1 k out n kk xs len i) R := by
  have hw1 : wrap64 ((i : Int) + 1) = ((i + 1 : Nat) : Int) := by rw [w64_in (by omega) (by omega)]; omega
  intro kk
  induction kk with
  | zero =>
    intro hk he
    refine Ev.step (fun k => creellaw17_rise.l1.eq_2 _ _ _ _ _ _ _) ?_
    rw [hw1]
    refine ev_neg (by omega) (ev_some (ev_pos (by omega) (ev_pos (by omega) (ev_some (ev_pos (by simp) (ev_some (ev_some (ev_pos (by simp) (ev_some (ev_some (ev_pos ?_ ?_)))))))))))
    · simp; omega
    · simp only [Int.toNat_natCast]
      exact he
  | succ kk ih =>
    intro hk he
    have hw : wrap64 (((kk + 1 : Nat) : Int) - 1) = (kk : Int) := by rw [w64_in (by omega) (by omega)]; omega
    refine Ev.step (fun k => creellaw17_rise.l1.eq_2 _ _ _ _ _ _ _) ?_
    rw [hw, hw1]
    refine ev_pos (by omega) (ev_pos (by omega) (ev_pos (by omega) ?_))
    rw [rd_getD]
    by_cases hc : n < out.getD kk 0
    · have hb : backK out n (kk + 1) = backK out n kk := by rw [backK, if_pos hc]
      rw [hb] at he
      exact ev_pos hc (ih (by omega) he)
    · have hb : backK out n (kk + 1) = kk + 1 := by rw [backK, if_neg hc]
      rw [hb] at he
      refine ev_neg hc ?_
      by_cases hq : out.getD kk 0 = n
      · refine ev_pos hq ?_
        have e : insAt out n (kk + 1) = out := by unfold insAt; rw [if_pos ⟨by omega, by rw [Nat.add_sub_cancel]; exact hq⟩]
        rw [e] at he
        exact he
      · refine ev_neg hq ?_
        have e : insAt out n (kk + 1) = out.take (kk + 1) ++ n :: out.drop (kk + 1) := by unfold insAt; rw [if_neg (by rw [Nat.add_sub_cancel]; exact fun h => hq h.2)]
        rw [e] at he
        have h1 : (out.take (kk + 1)).length = kk + 1 := by rw [List.length_take]; omega
        have h2 : (out.drop (kk + 1)).length = out.length - (kk + 1) := List.length_drop ..
        rw [Int.toNat_natCast]
        refine ev_some (ev_pos (by omega) (ev_pos (by omega) (ev_some (ev_pos ?_ (ev_some (ev_some (ev_pos ?_ (ev_some (ev_some (ev_pos ?_ ?_))))))))))
        · simp only [List.length_nil]; omega
        · simp only [List.length_nil, List.length_append, List.length_cons]; omega
        · simp only [List.length_nil, List.length_append, List.length_cons]; omega
        · simp only [List.nil_append, List.append_assoc, List.singleton_append, List.cons_append]
          exact he
theorem rise_loop (xs : List Int) (hl : xs.length ≤ 1000) : ∀ (d i : Nat) (out : List Int), i + d = xs.length → out.length ≤ i → Ev (fun k => creellaw17_rise.l0 k out xs xs.length i) ((xs.drop i).foldl insN out) := by
  intro d
  induction d with
  | zero =>
    intro i out hi ho
    rw [List.drop_eq_nil_of_le (by omega)]
    refine Ev.step (fun k => creellaw17_rise.l0.eq_2 _ _ _ _ _) ?_
    exact ev_neg (by omega) (ev_val rfl)
  | succ d ih =>
    intro i out hi ho
    rw [rd_drop (show i < xs.length by omega), List.foldl_cons]
    refine Ev.step (fun k => creellaw17_rise.l0.eq_2 _ _ _ _ _) ?_
    refine ev_pos (by omega) (ev_pos (by omega) (ev_pos (by omega) ?_))
    have hn := ins_len out (rd xs (i : Int))
    exact rise_back out xs (rd xs i) 0 xs.length _ (by omega) i (by omega) out.length (Nat.le_refl _) (by
      rw [← insN_at]
      exact ih (i + 1) (insN out (rd xs i)) (by omega) (by omega))
theorem rise17_ev (l : List Int) : Ev (fun k => creellaw17_rise.f k l) (riseN (l.take 200)) := by
  unfold creellaw17_rise.f
  refine ev_got (few17 l) ?_
  have := rise_loop (l.take 200) (by rw [List.length_take]; omega) (l.take 200).length 0 [] (by omega) (by simp)
  rw [List.drop_zero] at this
  exact this
theorem rise17_facts {l : List Int} (h : Us l) : rises (riseN (l.take 200)) = true ∧ Us (riseN (l.take 200)) ∧ (riseN (l.take 200)).length ≤ 200 := by
  obtain ⟨h1, h2, h3⟩ := riseN_facts (h.take 200)
  exact ⟨h1, h2, Nat.le_trans h3 (by rw [List.length_take]; omega)⟩

end Go.Proofs.Ytgpacbklpmloaaa.Plain
