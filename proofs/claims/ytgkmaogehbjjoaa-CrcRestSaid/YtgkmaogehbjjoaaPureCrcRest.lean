/- Bytes with their sum behind them, the lowest byte first, have one sum, whatever they are: for any bytes (the first 300). -/
import Derived.Test.YtgkmaogehbjjoaaSpecFew02
import Derived.Test.YtgkmaogehbjjoaaPrint3
set_option linter.unusedVariables false
set_option linter.unusedSimpArgs false
namespace Go.Proofs.Ytgkmaogehbjjoaa.Pure
open Go.RowKit Go.Proofs.Ytgkmaogehbjjoaa.Print Go.Proofs.YtgkmaogehbjjoaaW.PrintWords Go.Proofs.YtgkmaogehbjjoaaW.PrintLast Go.Proofs.YtgkmaogehbjjoaaW.PrintMore Go.Proofs.Ytgkmaogehbjjoaa.Plain

theorem CrcRest : creellaw02_CrcRest.Pure := by
  intro a _ _ ha
  obtain ⟨x, hx, hxb, hxl⟩ := few02 a (fun x hx => wf_u8 (ha x hx))
  unfold creellaw02_CrcRest.f
  simp only [crc_shown_eq, Option.bind_some, hx, Sum_eq, Add_eq, List.nil_append, List.length_nil]
  rw [if_pos (by trivial), if_pos (by omega), if_pos (by simp; omega), sum_rest hxb _ rfl]
  simp

end Go.Proofs.Ytgkmaogehbjjoaa.Pure
