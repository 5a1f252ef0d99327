/- Numbers that may be below 0 go there and back, and those near 0 are small: for every two numbers. -/
import Derived.Test.YtfhbeghmlfjfjaaSpecVaryLaws
import Derived.Test.YtfhbeghmlfjfjaaPrint13
set_option linter.unusedVariables false
set_option linter.unusedSimpArgs false
namespace Go.Proofs.Ytfhbeghmlfjfjaa.Pure
open Go.RowKit Go.Proofs.Ytfhbeghmlfjfjaa.Print Go.Proofs.YtfhbeghmlfjfjaaW.PrintWords Go.Proofs.YtfhbeghmlfjfjaaW.PrintLast Go.Proofs.YtfhbeghmlfjfjaaW.PrintMore Go.Proofs.Ytfhbeghmlfjfjaa.Plain

theorem zig_range {n : Int} (h0 : -9223372036854775808 ≤ n) (h1 : n < 9223372036854775808) : 0 ≤ zigZ n ∧ zigZ n < 18446744073709551616 := by unfold zigZ; split <;> omega
theorem zag_range {n : Int} (h0 : 0 ≤ n) (h1 : n < 18446744073709551616) : -9223372036854775808 ≤ zagZ n ∧ zagZ n < 9223372036854775808 := by unfold zagZ; split <;> omega
theorem zag_zig (n : Int) : zagZ (zigZ n) = n := by unfold zagZ zigZ; split <;> split <;> omega
theorem zig_zag {n : Int} (h0 : 0 ≤ n) : zigZ (zagZ n) = n := by unfold zagZ zigZ; split <;> split <;> omega

theorem signs (n m : Int) (hn0 : -9223372036854775808 ≤ n) (hn1 : n < 9223372036854775808) (hm0 : 0 ≤ m) (hm1 : m < 18446744073709551616) (b : Bool) (hb : b = (decide (-1048576 < n) && decide (n < 1048576))) :
    Ev (fun k => creellaw01_VarySigns.j0 k n m true b) true := by
  refine some_ev fun k => ?_
  simp only [creellaw01_VarySigns.j0]
  obtain ⟨hz0, hz1⟩ := zig_range hn0 hn1
  obtain ⟨hg0, hg1⟩ := zag_range hm0 hm1
  rw [if_pos trivial, vary_Zig_eq hn0 hn1]
  simp only [Option.bind_some]
  rw [vary_Zag_eq hz0 hz1]
  simp only [Option.bind_some]
  rw [zag_zig, if_pos rfl, vary_Zag_eq hm0 hm1]
  simp only [Option.bind_some]
  rw [vary_Zig_eq hg0 hg1]
  simp only [Option.bind_some]
  rw [zig_zag hm0, if_pos rfl, and_one hz0 hz1]
  have h1 : ((zigZ n % 2 == 1) == decide (n < 0)) = true := by
    rw [beq_iff_eq, Bool.eq_iff_iff, beq_iff_eq, decide_eq_true_eq]
    unfold zigZ; split <;> omega
  rw [if_pos h1]
  by_cases h2 : zigZ n ≤ 2097150
  · rw [if_pos h2, hb]
    congr 1
    rw [beq_iff_eq, Bool.eq_iff_iff]
    simp only [Bool.and_eq_true, decide_eq_true_eq, bne_iff_ne, ne_eq]
    unfold zigZ at h2; split at h2 <;> omega
  · rw [if_neg h2, hb]
    congr 1
    rw [beq_iff_eq, Bool.eq_false_iff]
    simp only [Bool.and_eq_true, decide_eq_true_eq, ne_eq]
    unfold zigZ at h2; split at h2 <;> omega

theorem VarySigns : creellaw01_VarySigns.Pure := by
  intro n m hn hm
  obtain ⟨hn0, hn1⟩ := wf_i64 hn
  obtain ⟨hm0, hm1⟩ := wf_u64 hm
  refine Ev.rounds ?_
  unfold creellaw01_VarySigns.f
  refine Ev.bind shown1_ev ?_
  by_cases h : n > -1048576
  · refine Ev.congr (f := fun k => creellaw01_VarySigns.j0 k n m true (decide (n < 1048576))) (fun k => by rw [if_pos h]) (signs n m hn0 hn1 hm0 hm1 _ ?_)
    rw [decide_eq_true (show -1048576 < n by omega)]; rfl
  · refine Ev.congr (f := fun k => creellaw01_VarySigns.j0 k n m true false) (fun k => by rw [if_neg h]) (signs n m hn0 hn1 hm0 hm1 _ ?_)
    rw [decide_eq_false (show ¬ -1048576 < n by omega)]; rfl

end Go.Proofs.Ytfhbeghmlfjfjaa.Pure
