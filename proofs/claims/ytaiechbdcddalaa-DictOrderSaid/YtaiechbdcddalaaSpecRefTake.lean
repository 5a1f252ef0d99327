/- The document's taking of labels: whatever can be taken, put again, must be the bytes. -/
import Derived.Test.YtaiechbdcddalaaSpecWords
import Derived.Test.YtaiechbdcddalaaPrint14
import Derived.Test.YtaiechbdcddalaaPrint9
set_option linter.unusedVariables false
set_option linter.unusedSimpArgs false
namespace Go.Proofs.Ytaiechbdcddalaa.Plain
open Go.RowKit Go.Proofs.Ytaiechbdcddalaa.Print Go.Proofs.YtaiechbdcddalaaW.PrintWords Go.Proofs.YtaiechbdcddalaaW.PrintLast Go.Proofs.YtaiechbdcddalaaW.PrintMore

theorem Same12_loop (l : List (List Int)) (hl : l.length ≤ 100000) : ∀ (d i : Nat), i + d = l.length → Ev (fun k => creelref12_Same.l0 k l l i) true := by
  intro d
  induction d with
  | zero => intro i hi; exact Ev.step (fun k => creelref12_Same.l0.eq_2 _ _ _ _) (ev_neg (by omega) (ev_val rfl))
  | succ d ih =>
    intro i hi
    have hw : wrap64 ((i : Int) + 1) = ((i + 1 : Nat) : Int) := by rw [w64_in (by omega) (by omega)]; omega
    refine Ev.step (fun k => creelref12_Same.l0.eq_2 _ _ _ _) ?_
    rw [hw]
    clear hw
    exact ev_pos (by omega) (ev_pos (by omega) (ev_pos (by omega) (ev_pos rfl (ih (i + 1) (by omega)))))
theorem Same12_ev (l : List (List Int)) (hl : l.length ≤ 100000) : Ev (fun k => creelref12_Same.f k l l) true := by
  unfold creelref12_Same.f
  exact ev_pos rfl (Same12_loop l hl l.length 0 (by omega))

end Go.Proofs.Ytaiechbdcddalaa.Plain
