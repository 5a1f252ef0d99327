/- What was put is taken, cut it is not, and of all that is taken there is one way to put it: any vertex, any numbers (the first 200; put in order, each once), where it is cut, any bytes (the first 500). -/
import Derived.Test.YtgpacbklpmloaaaSpecRise17
import Derived.Test.YtgpacbklpmloaaaPrint13
set_option linter.unusedVariables false
set_option linter.unusedSimpArgs false
namespace Go.Proofs.Ytgpacbklpmloaaa.Pure
open Go.RowKit Go.Proofs.Ytgpacbklpmloaaa.Print Go.Proofs.YtgpacbklpmloaaaW.PrintWords Go.Proofs.YtgpacbklpmloaaaW.PrintLast Go.Proofs.YtgpacbklpmloaaaW.PrintMore Go.Proofs.Ytgpacbklpmloaaa.Plain

theorem GapsBack : creellaw17_GapsBack.Pure := by
  intro v l a b hv _ _ hl ha _ _ hb
  have hv' := wf_u32 hv
  have ha' := wf_u16 ha
  have hu : Us l := fun y hy => wf_u32 (hl y hy)
  have hb' : Bs b := fun y hy => wf_u8 (hb y hy)
  have hmn : 0 ≤ mn (b.length : Int) 500 ∧ mn (b.length : Int) 500 ≤ (b.length : Int) ∧ mn (b.length : Int) 500 ≤ 500 := by unfold mn; split <;> omega
  obtain ⟨m, hm⟩ := Int.eq_ofNat_of_zero_le hmn.1
  obtain ⟨r1, r2, r3⟩ := rise17_facts hu
  refine Ev.rounds ?_
  unfold creellaw17_GapsBack.f
  refine ev_bind shown17_ev (ev_bind (rise17_ev l) ?_)
  generalize riseN (l.take 200) = x at *
  have hput : (gapsP v x).2 = 0 := by unfold gapsP; rw [if_pos r1]
  have hbs := gapsP_bs v x
  have hback := gapsT_put v x hv'.1 hv'.2 r2 r1 (by omega)
  have hcut := fun j hj => gapsT_cut v x j hv'.1 hv'.2 r2 r1 (by omega) hj
  have hne : 1 ≤ (gapsP v x).1.length := by
    unfold gapsP
    rw [if_pos r1]
    have := putN_ne x.length
    simp only [List.length_append]; omega
  have hlen : (gapsP v x).1.length ≤ 100000 := by
    have h1 : ∀ (l : List Int) (p : Int), Us l → 0 ≤ p → p < 4294967296 → risesB p l = true → (gapB p l).length ≤ 10 * l.length := by
      intro l
      induction l with
      | nil => intro p _ _ _ _; simp [gapB]
      | cons n r ih =>
        intro p hu h0 h1 hr
        simp only [risesB, Bool.and_eq_true, decide_eq_true_eq] at hr
        have hn := hu.head
        have := ih n hu.tail hn.1 hn.2 hr.2
        have := putN_len10 (n := (n - p - 1).toNat) (by omega)
        simp only [gapB, List.length_append, List.length_cons]; omega
    unfold gapsP
    rw [if_pos r1]
    have h2 := putN_len10 (n := x.length) (by omega)
    have h3 : (bodyG v x).length ≤ 10 * x.length := by
      cases x with
      | nil => simp [bodyG]
      | cons n r =>
        have hn := r2.head
        obtain ⟨z, hz, hzl⟩ := zig_nat hn hv'
        have h4 := putN_len10 hzl
        have h5 := h1 r n r2.tail hn.1 hn.2 r1
        simp only [bodyG, List.length_append, List.length_cons, hz, Int.toNat_natCast]; omega
    simp only [List.length_append]; omega
  have hpe := gaps_Put_ev v hv' x r2 (by omega)
  refine ev_bind hpe ?_
  generalize gapsP v x = P at *
  have hte := gaps_Take_ev v hv' P.1 hbs (by omega)
  rw [hback] at hte
  refine ev_bind hte (ev_pos hput (ev_pos rfl (ev_neg (by omega) (ev_bind (same17_ev x x (by omega)) ?_))))
  rw [decide_eq_true (show x = x from rfl)]
  have e1 := Int.emod_nonneg a (show ((P.1.length : Nat) : Int) ≠ 0 by omega)
  have e2 := Int.emod_lt_of_pos a (show (0 : Int) < ((P.1.length : Nat) : Int) by omega)
  obtain ⟨j, hj⟩ := Int.eq_ofNat_of_zero_le e1
  have hw : Int.tmod (wrap64 a) (P.1.length : Int) = (j : Int) := by rw [w64_in (n := a) (by omega) (by omega), Int.tmod_eq_emod_of_nonneg ha'.1, hj]
  have hce := gaps_Take_ev v hv' (P.1.take j) (hbs.take j) (by rw [List.length_take]; omega)
  rw [hcut j (by omega)] at hce
  refine Ev.step (fun k => creellaw17_GapsBack.j0.eq_2 _ _ _ _ _ _ _) ?_
  rw [hw, hm]
  rw [hm] at hmn
  refine ev_neg (by decide) (ev_neg (by omega) (ev_pos (by omega) (ev_pos (by omega) ?_)))
  rw [Int.toNat_natCast]
  refine ev_bind hce (ev_pos rfl (ev_pos (by omega) (ev_pos (by omega) ?_)))
  rw [Int.toNat_natCast]
  have hXb : Bs (b.take m) := hb'.take _
  have hXl : (b.take m).length ≤ 500 := by rw [List.length_take]; omega
  generalize b.take m = X at *
  have hxe := gaps_Take_ev v hv' X hXb (by omega)
  rcases gapsT_only hv'.1 hv'.2 hXb with ⟨y, y1, y2, y3, y4, y5⟩ | y4
  · rw [y4] at hxe
    have hye := gaps_Put_ev v hv' y y1 (by omega)
    have hy2 : (gapsP v y).2 = 0 := by unfold gapsP; rw [if_pos y2]
    refine ev_bind hxe (ev_bind hye (ev_pos rfl (ev_pos rfl (ev_pos hy2 (ev_val ?_)))))
    rw [← y5]; exact beq_self_eq_true _
  · rw [y4] at hxe
    have hye := gaps_Put_ev v hv' [] Us.nil (by simp)
    exact ev_bind hxe (ev_bind hye (ev_pos rfl (ev_neg (by decide) (ev_pos rfl (ev_val rfl)))))

end Go.Proofs.Ytgpacbklpmloaaa.Pure
