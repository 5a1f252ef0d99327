/- What is unsealed, and the reference's. -/
import Derived.Test.YtaiechbdcddalaaSpecOnly03
import Derived.Test.YtaiechbdcddalaaPrint12
set_option linter.unusedVariables false
set_option linter.unusedSimpArgs false
namespace Go.Proofs.Ytaiechbdcddalaa.Plain
open Go.RowKit Go.Proofs.YtaiechbdcddalaaW.PrintWords Go.Proofs.YtaiechbdcddalaaW.PrintLast Go.Proofs.YtaiechbdcddalaaW.PrintMore Go.Proofs.Ytaiechbdcddalaa.Print

def takeFT (b : List Int) : List Int × List Int × Int := if (takeF b).2.2 = 0 then ((takeF b).1, b.drop ((takeF b).1.length + 8), 0) else ([], [], (takeF b).2.2)
def unsealF (b : List Int) : List Int × Int := if b.length < 4 then ([], 5) else if sealS (b.take (b.length - 4)) = b then (b.take (b.length - 4), 0) else ([], 6)
theorem ref_Unseal_ev (b : List Int) (hl : b.length ≤ 140737488340000) (hb : Bs b) : Ev (fun k => creelref03_Unseal.f k b) (unsealF b) := by
  unfold creelref03_Unseal.f unsealF
  by_cases h4 : b.length < 4
  · exact all_ev fun k => by rw [if_pos (by omega), if_pos h4]
  · have hw : wrap64 ((b.length : Int) - 4) = ((b.length - 4 : Nat) : Int) := by rw [w64_in (by omega) (by omega)]; omega
    have htl : (b.take (b.length - 4)).length = b.length - 4 := by rw [List.length_take]; omega
    refine Ev.congr (f := fun k => (creelref03_Seal.f k (b.take (b.length - 4))).bind fun t393 => (if (strOfNums t393).toList = (strOfNums b).toList then (some (b.take (b.length - 4), 0)) else (some (([] : List Int), 6)))) (fun k => ?_) (Ev.bind (ref_Seal_ev _ (by omega) (hb.take _)) (all_ev fun k => ?_))
    · rw [if_neg (by omega), hw]
      simp only [Option.bind_some, List.nil_append, List.length_nil, Int.toNat_natCast]
      rw [if_pos (by omega), if_pos (by omega), if_pos (by omega)]
    · rw [if_neg h4]
      by_cases hs : sealS (b.take (b.length - 4)) = b
      · rw [if_pos ((sn_inj (sealS_bs (hb.take _)) hb).2 hs), if_pos hs]
      · rw [if_neg (fun h => hs ((sn_inj (sealS_bs (hb.take _)) hb).1 h)), if_neg hs]
end Go.Proofs.Ytaiechbdcddalaa.Plain
