/- The sum of some bytes, gone on over others, is that of both: for any bytes (the first 300 each). -/
import Derived.Test.YtgkmaogehbjjoaaSpecFew02
import Derived.Test.YtgkmaogehbjjoaaPrint2
set_option linter.unusedVariables false
set_option linter.unusedSimpArgs false
namespace Go.Proofs.Ytgkmaogehbjjoaa.Pure
open Go.RowKit Go.Proofs.Ytgkmaogehbjjoaa.Print Go.Proofs.YtgkmaogehbjjoaaW.PrintWords Go.Proofs.YtgkmaogehbjjoaaW.PrintLast Go.Proofs.YtgkmaogehbjjoaaW.PrintMore Go.Proofs.Ytgkmaogehbjjoaa.Plain

theorem CrcParts : creellaw02_CrcParts.Pure := by
  intro a b _ _ ha _ _ hb
  obtain ⟨x, hx, hxb, hxl⟩ := few02 a (fun x hx => wf_u8 (ha x hx))
  obtain ⟨y, hy, hyb, hyl⟩ := few02 b (fun x hx => wf_u8 (hb x hx))
  unfold creellaw02_CrcParts.f
  simp only [crc_shown_eq, Option.bind_some, hx, hy, Sum_eq, Add_eq, List.nil_append, List.length_nil]
  rw [if_pos (by trivial), if_pos (by omega), if_pos (by omega), add_parts]
  simp

end Go.Proofs.Ytgkmaogehbjjoaa.Pure
