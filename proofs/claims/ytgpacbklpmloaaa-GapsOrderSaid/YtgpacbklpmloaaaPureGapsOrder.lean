/- Who leaves out the last neighbour has the same bytes but for how many there are, and the last ones: any vertex, any numbers (the first 200; put in order, each once). -/
import Derived.Test.YtgpacbklpmloaaaSpecRise17
import Derived.Test.YtgpacbklpmloaaaPrint7
set_option linter.unusedVariables false
set_option linter.unusedSimpArgs false
namespace Go.Proofs.Ytgpacbklpmloaaa.Pure
open Go.RowKit Go.Proofs.Ytgpacbklpmloaaa.Print Go.Proofs.YtgpacbklpmloaaaW.PrintWords Go.Proofs.YtgpacbklpmloaaaW.PrintLast Go.Proofs.YtgpacbklpmloaaaW.PrintMore Go.Proofs.Ytgpacbklpmloaaa.Plain

theorem order_one (v : Int) (hv : 0 ≤ v ∧ v < 4294967296) (l : List Int) (hu : Us l) (hr : rises l = true) (h1 : 1 ≤ l.length) (h127 : l.length ≤ 127) : Ev (fun k => creellaw17_GapsOrder.j0 k v true l false) true := by
  have hw : wrap64 ((l.length : Int) - 1) = ((l.length - 1 : Nat) : Int) := by rw [w64_in (by omega) (by omega)]; omega
  have hrt : rises (l.take (l.length - 1)) = true := (rises_iff _).2 (rise_take ((rises_iff _).1 hr) _)
  have htl : (l.take (l.length - 1)).length = l.length - 1 := by rw [List.length_take]; omega
  obtain ⟨x, hx⟩ : ∃ x, l = l.take (l.length - 1) ++ [x] := by
    refine ⟨l[l.length - 1]'(by omega), ?_⟩
    conv => lhs; rw [← List.take_append_drop (l.length - 1) l]
    rw [List.drop_eq_getElem_cons (by omega), List.drop_eq_nil_of_le (by omega)]
  obtain ⟨t, ht1, ht⟩ := bodyG_snoc v (l.take (l.length - 1)) x
  rw [← hx] at ht
  have hp : gapsP v l = ((l.length : Int) :: (bodyG v (l.take (l.length - 1)) ++ t), 0) := by
    unfold gapsP
    rw [if_pos hr, putN_small (by omega), ht]; rfl
  have hq : gapsP v (l.take (l.length - 1)) = (((l.length - 1 : Nat) : Int) :: bodyG v (l.take (l.length - 1)), 0) := by
    unfold gapsP
    rw [if_pos hrt, htl, putN_small (by omega)]; rfl
  generalize bodyG v (l.take (l.length - 1)) = B at *
  have hpe := gaps_Put_ev v hv l hu (by omega)
  have hqe := gaps_Put_ev v hv (l.take (l.length - 1)) (hu.take _) (by omega)
  rw [hp] at hpe
  rw [hq] at hqe
  refine Ev.step (fun k => creellaw17_GapsOrder.j0.eq_2 _ _ _ _ _) ?_
  rw [hw, Int.toNat_natCast]
  refine ev_neg (by decide) (ev_bind hpe (ev_pos (by omega) (ev_pos (by omega) (ev_bind hqe ?_))))
  have c1 : ((((l.length : Int) :: (B ++ t)).length : Nat) : Int) > ((((l.length - 1 : Nat) : Int) :: B).length : Nat) := by simp only [List.length_cons, List.length_append]; omega
  have c2 : ((((l.length - 1 : Nat) : Int) :: B).length : Nat) ≥ 1 := by simp only [List.length_cons]; omega
  refine ev_pos rfl (ev_pos rfl (ev_pos rfl (ev_pos c1 (ev_pos (by exact_mod_cast c2) (ev_pos (by exact_mod_cast c2) (ev_pos (Int.le_of_lt c1) ?_))))))
  refine ev_pos ?_ (ev_pos (by first | (simp; done) | (simp; omega)) (ev_pos ?_ (ev_pos (by first | (simp; done) | (simp; omega)) (ev_val ?_))))
  · show (strOfNums ((((l.length : Int) :: (B ++ t)).take (((((l.length - 1 : Nat) : Int) :: B).length : Nat) : Int).toNat).drop 1)).toList = _
    rw [Int.toNat_natCast, List.length_cons, List.take_succ_cons, List.take_left]; rfl
  · show (l.length : Int) = _
    omega
  · rw [beq_iff_eq]
    show ((l.length - 1 : Nat) : Int) = _
    omega
theorem GapsOrder : creellaw17_GapsOrder.Pure := by
  intro v l hv _ _ hl
  have hv' := wf_u32 hv
  have hu : Us l := fun y hy => wf_u32 (hl y hy)
  obtain ⟨r1, r2, r3⟩ := rise17_facts hu
  refine Ev.rounds ?_
  unfold creellaw17_GapsOrder.f
  refine ev_bind shown17_ev (ev_bind (rise17_ev l) ?_)
  generalize riseN (l.take 200) = x at *
  have htrue : ∀ b : Bool, b = true → Ev (fun k => creellaw17_GapsOrder.j0 k v true x b) true := by
    rintro b rfl
    refine Ev.step (fun k => creellaw17_GapsOrder.j0.eq_2 _ _ _ _ _) ?_
    exact ev_pos rfl (ev_val rfl)
  by_cases h0 : (x.length : Int) = 0
  · exact ev_pos h0 (htrue true rfl)
  · refine ev_neg h0 ?_
    by_cases h1 : (x.length : Int) > 127
    · exact htrue _ (decide_eq_true h1)
    · rw [decide_eq_false h1]
      exact order_one v hv' x r2 r1 (by omega) (by omega)

end Go.Proofs.Ytgpacbklpmloaaa.Pure
