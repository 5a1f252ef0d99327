/- No Dict has no label. -/
import Derived.Test.YtaiechbdcddalaaSpecDict
import Derived.Test.YtaiechbdcddalaaPrint8
import Derived.Test.YtaiechbdcddalaaPrint7
import Derived.Test.YtaiechbdcddalaaPrint9
set_option linter.unusedVariables false
set_option linter.unusedSimpArgs false
namespace Go.Proofs.Ytaiechbdcddalaa.Pure
open Go.RowKit Go.Proofs.Ytaiechbdcddalaa.Print Go.Proofs.YtaiechbdcddalaaW.PrintWords Go.Proofs.YtaiechbdcddalaaW.PrintLast Go.Proofs.YtaiechbdcddalaaW.PrintMore Go.Proofs.Ytaiechbdcddalaa.Plain

theorem DictNil : creellaw16_DictNil.Pure := by
  obtain ⟨K1, e1⟩ := shown16_ev
  exact ⟨K1, e1 _ (Nat.le_refl _)⟩

end Go.Proofs.Ytaiechbdcddalaa.Pure
