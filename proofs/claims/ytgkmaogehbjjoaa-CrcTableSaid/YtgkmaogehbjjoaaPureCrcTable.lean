/- The table's numbers are all unlike, the first is 0, and that of two bytes turned together is the XOR of both: any two bytes. -/
import Derived.Test.YtgkmaogehbjjoaaSpecCrc
import Derived.Test.YtgkmaogehbjjoaaPrint3
set_option linter.unusedVariables false
set_option linter.unusedSimpArgs false
namespace Go.Proofs.Ytgkmaogehbjjoaa.Pure
open Go.RowKit Go.Proofs.Ytgkmaogehbjjoaa.Print Go.Proofs.YtgkmaogehbjjoaaW.PrintWords Go.Proofs.YtgkmaogehbjjoaaW.PrintLast Go.Proofs.YtgkmaogehbjjoaaW.PrintMore Go.Proofs.Ytgkmaogehbjjoaa.Plain

theorem CrcTable : creellaw02_CrcTable.Pure := by
  intro a b ha hb
  obtain ⟨a0, a1⟩ := wf_u8 ha
  obtain ⟨b0, b1⟩ := wf_u8 hb
  have Ha : In32 a := by unfold In32; omega
  have Hb : In32 b := by unfold In32; omega
  obtain ⟨x0, x1⟩ := xor_u8_in (x := a) (y := b)
  have Hx : In32 (Go.bits .xor .u8 a b) := by unfold In32; omega
  refine ⟨by decide +kernel, ?_, fun h => ?_, fun h => by rw [h]⟩
  · rw [← B_inj (bits_in Hx 8) (xor_in _ _), B_bits Hx, B_xor8 ⟨a0, a1⟩ ⟨b0, b1⟩, stepN_xor, B_xor, B_bits Ha, B_bits Hb]
  · rw [← B_inj (bits_in Ha 8) (bits_in Hb 8), B_bits Ha, B_bits Hb] at h
    exact (B_inj Ha Hb).1 (stepN_inj h)

end Go.Proofs.Ytgkmaogehbjjoaa.Pure
