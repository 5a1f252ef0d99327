/- What Fix (layer 1), and its reference, compute, told by the plain laws. -/
import Derived.Test.YthnjeddcnkbebaaPrint1
import Derived.Test.YthnjeddcnkbebaaPrint3
import Derived.Test.YthnjeddcnkbebaaPrint4
import Derived.Test.YthnjeddcnkbebaaSpecTools
set_option linter.unusedVariables false
set_option linter.unusedSimpArgs false
namespace Go.Proofs.Ythnjeddcnkbebaa.Plain
open Go.RowKit Go.Proofs.YthnjeddcnkbebaaW.PrintWords Go.Proofs.YthnjeddcnkbebaaW.PrintLast Go.Proofs.YthnjeddcnkbebaaW.PrintMore Go.Proofs.Ythnjeddcnkbebaa.Print

theorem clone_eq {l : List Int} (h : l.length < 140737488355328) : slices_Clone_byte_byte.f l = some l := by
  unfold slices_Clone_byte_byte.f
  simp only [Option.bind_some, List.length_nil, List.nil_append]
  rw [if_pos (by omega)]

/-! ### Fix -/
theorem pow256 (i : Nat) : (2 : Int) ^ (8 * i) = ((256 ^ i : Nat) : Int) := by rw [Int.pow_mul, show (2 : Int) ^ 8 = ((256 : Nat) : Int) by decide, Int.natCast_pow]
theorem byte_at (n P : Nat) : ((n : Int) / (P : Int)) % 256 = ((n / P % 256 : Nat) : Int) := by rw [Int.natCast_emod, Int.natCast_ediv]; rfl
theorem vary_Fix_loop (n : Nat) (hn : n < 18446744073709551616) (s : Nat) : ∀ (out : List Int), s ≤ 8 → out.length + s ≤ 140737488355000 → Ev (fun k => vary_Fix.l0 k n out ((s : Int) - 1)) (out ++ fixN s n) := by
  induction s with
  | zero =>
    intro out _ _
    refine some_ev fun k => ?_
    simp only [vary_Fix.l0]
    rw [if_neg (by omega)]; simp [fixN]
  | succ s ih =>
    intro out hs hl
    have := ih (out ++ [((n / 256 ^ s % 256 : Nat) : Int)]) (by omega) (by simp; omega)
    rw [List.append_assoc] at this
    refine Ev.step (f := fun k => vary_Fix.l0 k n (out ++ [((n / 256 ^ s % 256 : Nat) : Int)]) ((s : Int) - 1)) (fun k => ?_) this
    simp only [vary_Fix.l0]
    rw [show ((s + 1 : Nat) : Int) - 1 = (s : Int) by omega, w64_in (n := 8 * (s : Int)) (by omega) (by omega), w64_in (n := (s : Int) - 1) (by omega) (by omega)]
    rw [if_pos (by omega), if_pos (by omega), if_pos (by omega), shr64 _ _ (by omega) (by omega), show (8 * (s : Int)).toNat = 8 * s by omega, pow256, byte_at]
theorem vary_Fix_ev (l : List Int) (n s : Nat) (hn : n < 18446744073709551616) (h1 : 1 ≤ s) (h8 : s ≤ 8) (hl : l.length ≤ 140737488354000) : Ev (fun k => vary_Fix.f k l n s) (l ++ fixN s n) := by
  unfold vary_Fix.f
  rw [clone_eq (by omega)]
  simp only [Option.bind_some]
  refine Ev.congr (f := fun k => vary_Fix.j0 k n s l (decide ((s : Int) > 8))) (fun k => by rw [if_neg (by omega)]) ?_
  rw [decide_eq_false (by omega)]
  refine Ev.step (f := fun k => vary_Fix.l0 k n l ((s : Int) - 1)) (fun k => ?_) (vary_Fix_loop n hn s l h8 (by omega))
  simp only [vary_Fix.j0]
  rw [if_neg (by decide), w64_in (by omega) (by omega)]

theorem ref_Fix_inner (n : Nat) (hn : n < 18446744073709551616) (out : List Int) (s : Nat) (hs : s ≤ 8) (hl : out.length < 140737488355328) : ∀ (d j : Nat), j + d = s → ∀ r, Ev (fun k => creelref01_Fix.l0 k n (out ++ [((n / 256 ^ s % 256 : Nat) : Int)]) ((s : Int) - 1)) r →
    Ev (fun k => creelref01_Fix.l1 k n out s ((n / 256 ^ j : Nat) : Int) j) r := by
  intro d
  induction d with
  | zero =>
    intro j hj r hr
    obtain rfl : j = s := by omega
    refine Ev.step (f := fun k => creelref01_Fix.l0 k n (out ++ [((n / 256 ^ j % 256 : Nat) : Int)]) ((j : Int) - 1)) (fun k => ?_) hr
    simp only [creelref01_Fix.l1]
    rw [if_neg (by omega), if_pos (by omega), w64_in (by omega) (by omega), Int.tmod_eq_emod_of_nonneg (Int.natCast_nonneg _)]
    congr 3
    omega
  | succ d ih =>
    intro j hj r hr
    refine Ev.step (f := fun k => creelref01_Fix.l1 k n out s ((n / 256 ^ (j + 1) : Nat) : Int) ((j + 1 : Nat) : Int)) (fun k => ?_) (ih (j + 1) (by omega) r hr)
    simp only [creelref01_Fix.l1]
    have hle : n / 256 ^ j ≤ n := Nat.div_le_self _ _
    have hd : ((n / 256 ^ j : Nat) : Int) / 256 = ((n / 256 ^ (j + 1) : Nat) : Int) := by rw [Nat.pow_succ, ← Nat.div_div_eq_div_mul]; omega
    have hle2 : n / 256 ^ (j + 1) ≤ n := Nat.div_le_self _ _
    rw [if_pos (by omega), w64_in (by omega) (by omega), Int.tdiv_eq_ediv_of_nonneg (Int.natCast_nonneg _), hd, u64_in (Int.natCast_nonneg _) (by omega)]
    rfl
theorem ref_Fix_loop (n : Nat) (hn : n < 18446744073709551616) (s : Nat) : ∀ (out : List Int), s ≤ 8 → out.length + s ≤ 140737488355000 → Ev (fun k => creelref01_Fix.l0 k n out ((s : Int) - 1)) (out ++ fixN s n) := by
  induction s with
  | zero =>
    intro out _ _
    refine some_ev fun k => ?_
    simp only [creelref01_Fix.l0]
    rw [if_neg (by omega)]; simp [fixN]
  | succ s ih =>
    intro out hs hl
    have := ih (out ++ [((n / 256 ^ s % 256 : Nat) : Int)]) (by omega) (by simp; omega)
    rw [List.append_assoc] at this
    have h2 := ref_Fix_inner n hn out s (by omega) (by omega) s 0 (by omega) _ this
    refine Ev.step (f := fun k => creelref01_Fix.l1 k n out s ((n / 256 ^ 0 : Nat) : Int) ((0 : Nat) : Int)) (fun k => ?_) h2
    simp only [creelref01_Fix.l0]
    rw [show ((s + 1 : Nat) : Int) - 1 = (s : Int) by omega, if_pos (by omega)]
    simp
theorem ref_Fix_ev (l : List Int) (n s : Nat) (hn : n < 18446744073709551616) (h1 : 1 ≤ s) (h8 : s ≤ 8) (hl : l.length ≤ 140737488354000) : Ev (fun k => creelref01_Fix.f k l n s) (l ++ fixN s n) := by
  unfold creelref01_Fix.f
  simp only [Option.bind_some, List.nil_append, List.length_nil]
  refine Ev.congr (f := fun k => creelref01_Fix.j0 k n s l (decide ((s : Int) > 8))) (fun k => by rw [if_pos (by omega), if_neg (by omega)]) ?_
  rw [decide_eq_false (by omega)]
  refine Ev.step (f := fun k => creelref01_Fix.l0 k n l ((s : Int) - 1)) (fun k => ?_) (ref_Fix_loop n hn s l h8 (by omega))
  simp only [creelref01_Fix.j0]
  rw [if_neg (by decide), w64_in (by omega) (by omega)]

end Go.Proofs.Ythnjeddcnkbebaa.Plain
