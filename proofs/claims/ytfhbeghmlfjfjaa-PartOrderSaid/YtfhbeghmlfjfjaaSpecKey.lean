/- Edges as records (layer 19): what the printed functions compute. -/
import Derived.Test.YtfhbeghmlfjfjaaSpecVary
import Derived.Test.YtfhbeghmlfjfjaaSpecPart
import Derived.Test.YtfhbeghmlfjfjaaPrint9
import Derived.Test.YtfhbeghmlfjfjaaPrint7
set_option linter.unusedVariables false
set_option linter.unusedSimpArgs false
namespace Go.Proofs.Ytfhbeghmlfjfjaa.Plain
open Go.RowKit Go.Proofs.YtfhbeghmlfjfjaaW.PrintWords Go.Proofs.YtfhbeghmlfjfjaaW.PrintLast Go.Proofs.YtfhbeghmlfjfjaaW.PrintMore Go.Proofs.Ytfhbeghmlfjfjaa.Print

theorem or_key (a b : Nat) (ha : a < 4294967296) (hb : b < 4294967296) : Go.bits .or .u64 (IntKind.u64.wrap (IntKind.u64.wrap (a : Int) * 4294967296)) (IntKind.u64.wrap (b : Int)) = ((a * 4294967296 + b : Nat) : Int) := by
  rw [u64_in (n := (a : Int)) (by omega) (by omega), u64_in (n := (b : Int)) (by omega) (by omega), u64_in (n := (a : Int) * 4294967296) (by omega) (by omega), or_comm_bits]
  have h32 : (2 : Int) ^ 32 = 4294967296 := by decide
  have := or_sum 32 (acc := (b : Int)) (x := (a : Int)) (by omega) (by omega) (by omega) (by omega) (by omega)
  rw [h32] at this
  rw [this]; omega
theorem Key_ev (a b : Nat) (ha : a < 4294967296) (hb : b < 4294967296) : Ev (fun k => part_Key.f k a b) (fixN 8 (a * 4294967296 + b)) := by
  unfold part_Key.f
  simp only [or_key a b ha hb]
  refine Ev.bind (Ev.eq (vary_Fix_ev [] (a * 4294967296 + b) 8 (by omega) (by omega) (by omega) (by decide)) (List.nil_append _)) (all_ev fun k => rfl)
theorem Unkey_ev (a b : Nat) (ha : a < 4294967296) (hb : b < 4294967296) : Ev (fun k => part_Unkey.f k (fixN 8 (a * 4294967296 + b))) ((a : Int), (b : Int), true) := by
  have h256 : (256 : Nat) ^ 8 = 18446744073709551616 := by decide
  have e : unfixS (fixN 8 (a * 4294967296 + b)) 8 = (((a * 4294967296 + b : Nat) : Int), [], 0) := by
    unfold unfixS
    have hl := fixN_len 8 (a * 4294967296 + b)
    rw [if_neg (by omega), if_neg (by omega), show (8 : Int).toNat = 8 from rfl, List.take_of_length_le (by omega), List.drop_eq_nil_of_le (by omega), uval_fix' (by omega)]
  unfold part_Unkey.f
  refine Ev.bind (Ev.eq (vary_Unfix_ev _ 8 (fixN_bs _ _) (by rw [fixN_len]; omega) (by omega)) e) (all_ev fun k => ?_)
  rw [if_pos rfl, if_neg (by simp)]
  show some (((a * 4294967296 + b : Nat) : Int) / 4294967296 % 4294967296, ((a * 4294967296 + b : Nat) : Int) % 4294967296, true) = _
  rw [show ((a * 4294967296 + b : Nat) : Int) / 4294967296 % 4294967296 = (a : Int) by omega, show ((a * 4294967296 + b : Nat) : Int) % 4294967296 = (b : Int) by omega]

end Go.Proofs.Ytfhbeghmlfjfjaa.Plain
