/- Bytes that were sealed are unsealed, and sealed bytes of which bits were turned are none; and they are the document's. -/
import Derived.Test.YtdaieafampimhaaSpecUnseal
import Derived.Test.YtdaieafampimhaaPrint13
set_option linter.unusedVariables false
set_option linter.unusedSimpArgs false
namespace Go.Proofs.Ytdaieafampimhaa.Pure
open Go.RowKit Go.Proofs.Ytdaieafampimhaa.Print Go.Proofs.YtdaieafampimhaaW.PrintWords Go.Proofs.YtdaieafampimhaaW.PrintLast Go.Proofs.YtdaieafampimhaaW.PrintMore Go.Proofs.Ytdaieafampimhaa.Plain

theorem FrameSeals : creellaw03_FrameSeals.Pure := by
  intro x at_ turns _ _ hx hat hturns
  have hx' : Bs x := fun y hy => wf_u8 (hx y hy)
  obtain ⟨a0, a1⟩ := wf_u16 hat
  have hmn : 0 ≤ mn (x.length : Int) 400 ∧ mn (x.length : Int) 400 ≤ (x.length : Int) ∧ mn (x.length : Int) 400 ≤ 400 := by unfold mn; split <;> omega
  obtain ⟨m, hm⟩ := Int.eq_ofNat_of_zero_le hmn.1
  refine Ev.rounds ?_
  unfold creellaw03_FrameSeals.f
  refine Ev.bind shown03_ev ?_
  rw [hm] at hmn ⊢
  have hyb : Bs (x.take m) := hx'.take _
  have hyl : (x.take m).length ≤ 400 := by rw [List.length_take]; omega
  refine Ev.congr (f := fun k => (frame_Seal.f (x.take m)).bind fun t398 => ((frame_Unseal.f k (x.take m)).bind fun bt401 => ((creelref03_Unseal.f k (x.take m)).bind fun bt405 => ((creelref03_Seal.f k (x.take m)).bind fun t409 => (if (strOfNums t398).toList = (strOfNums t409).toList then (if (strOfNums bt401.1).toList = (strOfNums bt405.1).toList then (if bt401.2 = bt405.2 then (creellaw03_FrameSeals.j0 k at_ turns true (x.take m) t398 (decide ((t398.length : Int) < 4))) else (creellaw03_FrameSeals.j0 k at_ turns true (x.take m) t398 true)) else (creellaw03_FrameSeals.j0 k at_ turns true (x.take m) t398 true)) else (creellaw03_FrameSeals.j0 k at_ turns true (x.take m) t398 true)))))) (fun k => by rw [if_pos (by omega), if_pos (by omega), Int.toNat_natCast]) ?_
  generalize x.take m = y at *
  have hfl := sealS_len y
  have hfb := sealS_bs hyb
  simp only [Seal_eq (show y.length ≤ 140737488350000 by omega), Option.bind_some]
  refine Ev.bind (Unseal_ev y (by omega)) (Ev.bind (ref_Unseal_ev y (by omega) hyb) (Ev.bind (ref_Seal_ev y (by omega) hyb) ?_))
  refine Ev.congr (f := fun k => creellaw03_FrameSeals.j0 k at_ turns true y (sealS y) false) (fun k => by rw [if_pos (by rfl), if_pos (by rfl), if_pos (by rfl), decide_eq_false (by show ¬ ((sealS y).length : Int) < 4; omega)]) ?_
  have h8 : wrap64 (8 * ((sealS y).length : Int)) = ((8 * y.length + 32 : Nat) : Int) := by rw [hfl, w64_in (n := 8 * ((y.length + 4 : Nat) : Int)) (by omega) (by omega)]; omega
  have e1 := Int.emod_nonneg at_ (show ((8 * y.length + 32 : Nat) : Int) ≠ 0 by omega)
  have e2 := Int.emod_lt_of_pos at_ (show (0 : Int) < ((8 * y.length + 32 : Nat) : Int) by omega)
  obtain ⟨g, hg⟩ := Int.eq_ofNat_of_zero_le e1
  have hfst : Int.tmod (wrap64 at_) ((8 * y.length + 32 : Nat) : Int) = (g : Int) := by
    rw [w64_in (n := at_) (by omega) (by omega), Int.tmod_eq_emod_of_nonneg a0, hg]
  obtain ⟨t, q, h1, h2, h3, h4, h5⟩ := turn_ev (sealS y) hfb (by omega) g (by omega) turns
  refine Ev.step (f := fun k => (creellaw03_turn.f k (sealS y) (g : Int) turns).bind fun bt412 => ((frame_Unseal.f k bt412.2).bind fun bt414 => (if true = true then (if bt412.1 = true then (if bt414.2 = 6 then (if (bt414.1.length : Int) = 0 then (some true) else (some false)) else (some false)) else (if bt414.2 = 0 then (some ((strOfNums bt414.1).toList == (strOfNums y).toList)) else (some false))) else (some false)))) (fun k => ?_) (Ev.bind h1 (Ev.bind (Unseal_ev q (by omega)) (all_ev fun k => ?_)))
  · simp only [creellaw03_FrameSeals.j0, h8]
    rw [if_neg (by decide), if_neg (by omega), hfst]
  · rw [if_pos (by trivial)]
    rcases h5 with ⟨rfl, rfl⟩ | ⟨rfl, h5⟩
    · rw [unsealF_seal, if_neg (by simp), if_pos (by trivial), beq_self_eq_true]
    · rw [unsealF_turned hyb h3 h2 h5, if_pos (by trivial), if_pos (by trivial), if_pos (by rfl)]

end Go.Proofs.Ytdaieafampimhaa.Pure
