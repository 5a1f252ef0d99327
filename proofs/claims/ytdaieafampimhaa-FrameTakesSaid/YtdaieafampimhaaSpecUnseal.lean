/- What is unsealed, and the reference's. -/
import Derived.Test.YtdaieafampimhaaSpecTurn
import Derived.Test.YtdaieafampimhaaPrint11
import Derived.Test.YtdaieafampimhaaPrint12
set_option linter.unusedVariables false
set_option linter.unusedSimpArgs false
namespace Go.Proofs.Ytdaieafampimhaa.Plain
open Go.RowKit Go.Proofs.YtdaieafampimhaaW.PrintWords Go.Proofs.YtdaieafampimhaaW.PrintLast Go.Proofs.YtdaieafampimhaaW.PrintMore Go.Proofs.Ytdaieafampimhaa.Print

def unsealF (b : List Int) : List Int × Int := if b.length < 4 then ([], 5) else if sealS (b.take (b.length - 4)) = b then (b.take (b.length - 4), 0) else ([], 6)
theorem Unseal_ev (b : List Int) (hl : b.length ≤ 140737488350000) : Ev (fun k => frame_Unseal.f k b) (unsealF b) := by
  unfold frame_Unseal.f unsealF
  by_cases h4 : b.length < 4
  · exact all_ev fun k => by rw [if_pos (by omega), if_pos h4]
  · have hw : wrap64 ((b.length : Int) - 4) = ((b.length - 4 : Nat) : Int) := by rw [w64_in (by omega) (by omega)]; omega
    refine Ev.congr (f := fun k => (frame_sealed.f k b).bind fun t381 => (if t381 = true then (if 0 ≤ (((b.length - 4 : Nat) : Int)) then (if (((b.length - 4 : Nat) : Int)) ≤ (b.length : Int) then ((slices_Clone_byte_byte.f (b.take ((((b.length - 4 : Nat) : Int)) : Int).toNat)).bind fun t383 => (some (t383, 0))) else (none)) else (none)) else (some (([] : List Int), 6)))) (fun k => by rw [if_neg (by omega), hw]) ?_
    refine Ev.bind (sealed_ev b (by omega) hl) (all_ev fun k => ?_)
    rw [if_neg h4]
    by_cases hs : sealS (b.take (b.length - 4)) = b
    · rw [if_pos (decide_eq_true hs), if_pos hs, if_pos (by omega), if_pos (by omega), Int.toNat_natCast, clone_eq (by rw [List.length_take]; omega)]; rfl
    · rw [if_neg (by simpa using hs), if_neg hs]
theorem ref_Unseal_ev (b : List Int) (hl : b.length ≤ 140737488340000) (hb : Bs b) : Ev (fun k => creelref03_Unseal.f k b) (unsealF b) := by
  unfold creelref03_Unseal.f unsealF
  by_cases h4 : b.length < 4
  · exact all_ev fun k => by rw [if_pos (by omega), if_pos h4]
  · have hw : wrap64 ((b.length : Int) - 4) = ((b.length - 4 : Nat) : Int) := by rw [w64_in (by omega) (by omega)]; omega
    have htl : (b.take (b.length - 4)).length = b.length - 4 := by rw [List.length_take]; omega
    refine Ev.congr (f := fun k => (creelref03_Seal.f k (b.take (b.length - 4))).bind fun t393 => (if (strOfNums t393).toList = (strOfNums b).toList then (some (b.take (b.length - 4), 0)) else (some (([] : List Int), 6)))) (fun k => ?_) (Ev.bind (ref_Seal_ev _ (by omega) (hb.take _)) (all_ev fun k => ?_))
    · rw [if_neg (by omega), hw]
      simp only [Option.bind_some, List.nil_append, List.length_nil, Int.toNat_natCast]
      rw [if_pos (by omega), if_pos (by omega), if_pos (by omega)]
    · rw [if_neg h4]
      by_cases hs : sealS (b.take (b.length - 4)) = b
      · rw [if_pos ((sn_inj (sealS_bs (hb.take _)) hb).2 hs), if_pos hs]
      · rw [if_neg (fun h => hs ((sn_inj (sealS_bs (hb.take _)) hb).1 h)), if_neg hs]
theorem unsealF_seal (x : List Int) : unsealF (sealS x) = (x, 0) := by
  have hl := sealS_len x
  have ht : (sealS x).take ((sealS x).length - 4) = x := by rw [hl, Nat.add_sub_cancel]; exact sealS_take x
  unfold unsealF
  rw [if_neg (by omega), ht, if_pos (by rfl)]
theorem unsealF_turned {x q : List Int} (hx : Bs x) (hq : Bs q) (hl : q.length = (sealS x).length) (hs : addS 0 q ≠ addS 0 (sealS x)) : unsealF q = ([], 6) := by
  have hsl := sealS_len x
  unfold unsealF
  rw [if_neg (by omega), if_neg (fun h => hs (by rw [sum_sealed hq _ h, sum_seal hx]))]

end Go.Proofs.Ytdaieafampimhaa.Plain
