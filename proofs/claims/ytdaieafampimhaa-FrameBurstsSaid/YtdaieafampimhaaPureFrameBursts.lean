/- A frame of which bits were turned, behind its length, within 32 side by side, is none. -/
import Derived.Test.YtdaieafampimhaaSpecTurn
import Derived.Test.YtdaieafampimhaaPrint11
set_option linter.unusedVariables false
set_option linter.unusedSimpArgs false
namespace Go.Proofs.Ytdaieafampimhaa.Pure
open Go.RowKit Go.Proofs.Ytdaieafampimhaa.Print Go.Proofs.YtdaieafampimhaaW.PrintWords Go.Proofs.YtdaieafampimhaaW.PrintLast Go.Proofs.YtdaieafampimhaaW.PrintMore Go.Proofs.Ytdaieafampimhaa.Plain

theorem FrameBursts : creellaw03_FrameBursts.Pure := by
  intro x at_ turns _ _ hx hat hturns
  have hx' : Bs x := fun y hy => wf_u8 (hx y hy)
  obtain ⟨a0, a1⟩ := wf_u16 hat
  have hmn : 0 ≤ mn (x.length : Int) 400 ∧ mn (x.length : Int) 400 ≤ (x.length : Int) ∧ mn (x.length : Int) 400 ≤ 400 := by unfold mn; split <;> omega
  obtain ⟨m, hm⟩ := Int.eq_ofNat_of_zero_le hmn.1
  refine Ev.rounds ?_
  unfold creellaw03_FrameBursts.f
  refine Ev.bind shown03_ev ?_
  rw [hm] at hmn ⊢
  have hy : Ok4 (x.take m) := ⟨hx'.take _, by rw [List.length_take]; omega⟩
  have hyl : (x.take m).length = m := by rw [List.length_take]; omega
  have hyx := hy.2
  refine Ev.congr (f := fun k => (frame_Put.f k ([] : List Int) (x.take m)).bind fun bt352 => (if bt352.2 = 0 then (creellaw03_FrameBursts.j0 k at_ turns true (x.take m) bt352.1 (decide ((bt352.1.length : Int) < 8))) else (creellaw03_FrameBursts.j0 k at_ turns true (x.take m) bt352.1 true))) (fun k => by rw [if_pos (by omega), if_pos (by omega), Int.toNat_natCast]) ?_
  generalize x.take m = y at *
  have hfl := frameS_len y
  have hfb := frameS_bs hy.1
  have hput : putF [] y = (frameS y, 0) := by unfold putF; rw [if_neg (by omega)]; rfl
  have hp := Put_ev [] y (by simp)
  rw [hput] at hp
  refine Ev.bind hp ?_
  refine Ev.congr (f := fun k => creellaw03_FrameBursts.j0 k at_ turns true y (frameS y) false) (fun k => by rw [if_pos (by trivial), decide_eq_false (by show ¬ ((frameS y).length : Int) < 8; omega)]) ?_
  have h8 : wrap64 ((wrap64 (8 * ((frameS y).length : Int))) - 32) = ((8 * y.length + 32 : Nat) : Int) := by rw [hfl, w64_in (n := 8 * ((y.length + 8 : Nat) : Int)) (by omega) (by omega), w64_in (by omega) (by omega)]; omega
  have e1 := Int.emod_nonneg at_ (show ((8 * y.length + 32 : Nat) : Int) ≠ 0 by omega)
  have e2 := Int.emod_lt_of_pos at_ (show (0 : Int) < ((8 * y.length + 32 : Nat) : Int) by omega)
  obtain ⟨g, hg⟩ := Int.eq_ofNat_of_zero_le e1
  have hfst : wrap64 (32 + (Int.tmod (wrap64 at_) ((8 * y.length + 32 : Nat) : Int))) = ((32 + g : Nat) : Int) := by
    rw [w64_in (n := at_) (by omega) (by omega), Int.tmod_eq_emod_of_nonneg a0, hg, w64_in (by omega) (by omega)]; omega
  obtain ⟨t, q, h1, h2, h3, h4, h5⟩ := turn_ev (frameS y) hfb (by omega) (32 + g) (by omega) turns
  have hT := Take_ev q (by omega) h3
  refine Ev.step (f := fun k => (creellaw03_turn.f k (frameS y) ((32 + g : Nat) : Int) turns).bind fun bt356 => ((frame_Take.f k bt356.2).bind fun bt358 => (if true = true then (if bt356.1 = true then (if bt358.2.2 = 6 then (if (bt358.1.length : Int) = 0 then (some ((bt358.2.1.length : Int) == 0)) else (some false)) else (some false)) else (if bt358.2.2 = 0 then (if (strOfNums bt358.1).toList = (strOfNums y).toList then (some ((bt358.2.1.length : Int) == 0)) else (some false)) else (some false))) else (some false)))) (fun k => ?_) (Ev.bind h1 (Ev.bind hT (all_ev fun k => ?_)))
  · simp only [creellaw03_FrameBursts.j0, h8]
    rw [if_neg (by decide), if_neg (by omega), hfst]
  · rw [if_pos (by trivial)]
    rcases h5 with ⟨rfl, rfl⟩ | ⟨rfl, h5⟩
    · have ht := takeF_put hyx []
      rw [List.append_nil] at ht
      have hft : takeFT (frameS y) = (y, [], 0) := by
        unfold takeFT
        rw [ht, if_pos (by rfl)]
        show (y, (frameS y).drop (y.length + 8), (0 : Int)) = _
        rw [List.drop_eq_nil_of_le (by omega)]
      rw [hft, if_neg (by simp), if_pos (by trivial), if_pos (by trivial)]; rfl
    · have h44 : q.take 4 = (frameS y).take 4 := by
        have := congrArg (List.take 4) h4
        rwa [List.take_take, List.take_take, Nat.min_eq_left (by omega)] at this
      have hft : takeFT q = ([], [], 6) := by
        unfold takeFT
        rw [takeF_turned hy h3 (by omega) h44 h5, if_neg (by decide)]
      rw [hft, if_pos (by trivial), if_pos (by trivial), if_pos (by rfl)]; rfl

end Go.Proofs.Ytdaieafampimhaa.Pure
