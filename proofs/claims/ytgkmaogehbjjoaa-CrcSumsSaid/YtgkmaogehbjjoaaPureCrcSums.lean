/- The sum of bytes, one gone on, and the table, are the document's: any bytes (the first 300), any sum. -/
import Derived.Test.YtgkmaogehbjjoaaSpecSum02
import Derived.Test.YtgkmaogehbjjoaaPrint2
set_option linter.unusedVariables false
set_option linter.unusedSimpArgs false
namespace Go.Proofs.Ytgkmaogehbjjoaa.Pure
open Go.RowKit Go.Proofs.Ytgkmaogehbjjoaa.Print Go.Proofs.YtgkmaogehbjjoaaW.PrintWords Go.Proofs.YtgkmaogehbjjoaaW.PrintLast Go.Proofs.YtgkmaogehbjjoaaW.PrintMore Go.Proofs.Ytgkmaogehbjjoaa.Plain

theorem CrcSums : creellaw02_CrcSums.Pure := by
  intro l a _ _ hl ha
  obtain ⟨x, hx, hxb, hxl⟩ := few02 l (fun y hy => wf_u8 (hl y hy))
  obtain ⟨p, hp⟩ := ref_Sum_ev x (by omega) hxb
  obtain ⟨q, hq⟩ := ref_Add_ev a x (by omega) hxb
  refine ⟨max p q, x, addS 0 x, addS a x, hx, Sum_eq x, hp _ (Nat.le_max_left ..), Add_eq a x, hq _ (Nat.le_max_right ..), fun i hi => ?_⟩
  obtain ⟨n, hn⟩ := entry_ev (i : Int) (by unfold In32; omega)
  exact ⟨n, hn n (Nat.le_refl _)⟩

end Go.Proofs.Ytgkmaogehbjjoaa.Pure
