/- Both build the same file. -/
import Derived.Test.YtaiechbdcddalaaSpecDict
import Derived.Test.YtaiechbdcddalaaPrint11
import Derived.Test.YtaiechbdcddalaaPrint7
import Derived.Test.YtaiechbdcddalaaPrint9
set_option linter.unusedVariables false
set_option linter.unusedSimpArgs false
namespace Go.Proofs.Ytaiechbdcddalaa.Pure
open Go.RowKit Go.Proofs.Ytaiechbdcddalaa.Print Go.Proofs.YtaiechbdcddalaaW.PrintWords Go.Proofs.YtaiechbdcddalaaW.PrintLast Go.Proofs.YtaiechbdcddalaaW.PrintMore Go.Proofs.Ytaiechbdcddalaa.Plain

theorem DictBuilds : creellaw16_DictBuilds.Pure := by
  intro l hl hw
  have hb0 : Bsl l := fun y hy n hn => wf_u8 ((hw y hy).2 n hn)
  obtain ⟨hb, hL, hok⟩ := riseD_facts hb0
  have hl9 : l.length ≤ 9223372036854775807 := by unfold maxLen at hl; omega
  have hf := (few16R_facts l 0).1
  obtain ⟨K1, e1⟩ := shown16_ev
  obtain ⟨K2, e2⟩ := rise16_ev l hl9
  obtain ⟨K3, e3⟩ := few16_ev l hl9
  obtain ⟨K4, e4⟩ := Build_ev (few16R 0 l) (few16_bs hb0) (by omega)
  obtain ⟨K5, e5⟩ := ref16_Build_ev (few16R 0 l) (few16_bs hb0) (by omega)
  obtain ⟨K6, e6⟩ := Build_ev (riseD l) hb (by omega)
  obtain ⟨K7, e7⟩ := ref16_Build_ev (riseD l) hb (by omega)
  exact ⟨K1 + K2 + K3 + K4 + K5 + K6 + K7, few16R 0 l, riseD l, (dictP (few16R 0 l)).1, (dictP (riseD l)).1, (dictP (few16R 0 l)).2, (dictP (riseD l)).2, e1 _ (by omega), e3 _ (by omega), e2 _ (by omega), e4 _ (by omega), e5 _ (by omega), e6 _ (by omega), e7 _ (by omega)⟩

end Go.Proofs.Ytaiechbdcddalaa.Pure
