/- The statements of layer 1, over what its functions compute. -/
import Derived.Test.YtfhbeghmlfjfjaaSpecVary
import Derived.Test.YtfhbeghmlfjfjaaPrint14
set_option linter.unusedVariables false
set_option linter.unusedSimpArgs false
namespace Go.Proofs.Ytfhbeghmlfjfjaa.Plain
open Go.RowKit Go.Proofs.YtfhbeghmlfjfjaaW.PrintWords Go.Proofs.YtfhbeghmlfjfjaaW.PrintLast Go.Proofs.YtfhbeghmlfjfjaaW.PrintMore Go.Proofs.Ytfhbeghmlfjfjaa.Print



theorem shown1_ev : Ev (fun k => creellaw01_shown.f k) true := by
  have h1 : Ev (fun k => vary_Take.f k [128, 0]) (0, [], 6) := Ev.eq (vary_Take_ev [128, 0] (Bs.cons (by omega) (by omega) (Bs.cons (by omega) (by omega) Bs.nil)) (by decide)) (by decide)
  have h2 : Ev (fun k => vary_Take.f k [128]) (0, [], 5) := Ev.eq (vary_Take_ev [128] (Bs.cons (by omega) (by omega) Bs.nil) (by decide)) (by decide)
  have h3 : Ev (fun k => vary_Put.f k [] 300) [172, 2] := Ev.eq (vary_Put_ev [] 300 (by omega) (by decide)) (by rw [putN_big (by omega), putN_small (by omega)]; rfl)
  have h4 : Ev (fun k => vary_Fix.f k [] 258 3) [0, 1, 2] := Ev.eq (vary_Fix_ev [] 258 3 (by omega) (by omega) (by omega) (by decide)) (by decide)
  unfold creellaw01_shown.f
  refine Ev.bind h1 (Ev.bind h2 (Ev.bind h3 ?_))
  simp only [vary_Zig_eq (n := -1) (by omega) (by omega), Option.bind_some, sn]
  simp only [zigZ]
  refine Ev.congr (f := fun k => (vary_Fix.f k [] 258 3).bind fun t => some (((strOfNums t).toList) == ([0, 1, 2] : List UInt8))) (fun k => by simp only [sn]; rfl) ?_
  refine Ev.bind h4 (all_ev fun k => ?_)
  rw [sn]; rfl

end Go.Proofs.Ytfhbeghmlfjfjaa.Plain
