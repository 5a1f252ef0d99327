/- A frame has eight bytes more than what it has, behind what was there, and none is longer than it may be. -/
import Derived.Test.YtdaieafampimhaaSpecFrameAll
import Derived.Test.YtdaieafampimhaaPrint9
set_option linter.unusedVariables false
set_option linter.unusedSimpArgs false
namespace Go.Proofs.Ytdaieafampimhaa.Pure
open Go.RowKit Go.Proofs.Ytdaieafampimhaa.Print Go.Proofs.YtdaieafampimhaaW.PrintWords Go.Proofs.YtdaieafampimhaaW.PrintLast Go.Proofs.YtdaieafampimhaaW.PrintMore Go.Proofs.Ytdaieafampimhaa.Plain

theorem sum8 (a b : Nat) (ha : a ≤ 5000) (hb : b ≤ 5000) : ((a + b + 8 : Nat) : Int) = wrap64 (wrap64 ((a : Int) + (b : Int)) + 8) := by
  rw [w64_in (n := (a : Int) + (b : Int)) (by omega) (by omega), w64_in (by omega) (by omega)]; omega
theorem bind_some' {α β : Type} (a : α) (f : α → Option β) : (some a).bind f = f a := Eq.trans rfl rfl
theorem few03' (l : List Int) (hb : Bs l) : ∃ t, creellaw03_few.f l = some t ∧ t.length ≤ 5000 := ⟨_, few03 l hb, by rw [List.length_take]; exact Nat.min_le_left _ _⟩
theorem FrameLong : creellaw03_FrameLong.Pure := by
  intro b x _ _ hb _ _ hx
  obtain ⟨B, eB, hB⟩ := few03' b (fun y hy => wf_u8 (hb y hy))
  obtain ⟨X, eX, hX⟩ := few03' x (fun y hy => wf_u8 (hx y hy))
  clear hb hx
  refine Ev.rounds ?_
  unfold creellaw03_FrameLong.f
  rw [eB, eX]
  simp only [bind_some']
  refine Ev.bind shown03_ev ?_
  refine Ev.bind (Put_ev B X (Nat.le_trans hB (by decide))) (all_ev fun k => ?_)
  unfold putF
  by_cases h : 4096 < X.length
  · rw [if_pos (by omega), if_pos (by trivial), if_pos h, if_pos (by trivial)]; rfl
  · have hl := frameS_len X
    have hlen : (B ++ frameS X).length = B.length + X.length + 8 := by rw [List.length_append]; omega
    have h8 := sum8 B.length X.length hB hX
    rw [if_neg (by omega), if_pos (by trivial), if_neg h, if_pos (by trivial), hlen, if_pos h8]
    clear h8
    rw [if_pos (by omega), if_pos (by omega), Int.toNat_natCast, List.take_left, beq_self_eq_true]

end Go.Proofs.Ytdaieafampimhaa.Pure
