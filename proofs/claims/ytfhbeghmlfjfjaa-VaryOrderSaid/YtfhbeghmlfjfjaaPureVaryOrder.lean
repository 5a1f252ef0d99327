/- Numbers in so many bytes are in the order of their bytes, and come back, if they fit: any two numbers, any size. -/
import Derived.Test.YtfhbeghmlfjfjaaSpecVaryLaws
import Derived.Test.YtfhbeghmlfjfjaaSpecWalk
import Derived.Test.YtfhbeghmlfjfjaaPrint19
set_option linter.unusedVariables false
set_option linter.unusedSimpArgs false
namespace Go.Proofs.Ytfhbeghmlfjfjaa.Pure
open Go.RowKit Go.Proofs.Ytfhbeghmlfjfjaa.Print Go.Proofs.YtfhbeghmlfjfjaaW.PrintWords Go.Proofs.YtfhbeghmlfjfjaaW.PrintLast Go.Proofs.YtfhbeghmlfjfjaaW.PrintMore Go.Proofs.Ytfhbeghmlfjfjaa.Plain

theorem fixN_mod (s n : Nat) : fixN s (n % 256 ^ s) = fixN s n := by
  have h := fix_uval (fixN s n) (fixN_bs s n) 0
  rw [uval_fix, fixN_len, Nat.zero_mul, Nat.zero_add] at h
  exact h
theorem order_end (a x y s : Nat) (h1 : 1 ≤ s) (h8 : s ≤ 8) (ha : a < 18446744073709551616) (hx : x < 256 ^ s) (hy : y < 256 ^ s) (hx6 : x < 18446744073709551616) (hy6 : y < 18446744073709551616) (he : fixN s a = fixN s x) :
    Ev (fun k => creellaw01_VaryOrder.j0 k (a : Int) true (s : Int) (x : Int) (y : Int)) true := by
  have hfx := vary_Fix_ev [] x s hx6 h1 h8 (by decide)
  have hfy := vary_Fix_ev [] y s hy6 h1 h8 (by decide)
  have hfa := vary_Fix_ev [] a s ha h1 h8 (by decide)
  rw [List.nil_append] at hfx hfy hfa
  rw [he] at hfa
  have hlx := fixN_len s x
  have hly := fixN_len s y
  have hbx := fixN_bs s x
  have hun : Ev (fun k => vary_Unfix.f k (fixN s x) (s : Int)) ((x : Int), [], 0) := by
    refine Ev.eq (vary_Unfix_ev (fixN s x) s hbx (by omega) (by omega)) ?_
    unfold unfixS
    rw [if_neg (by omega), if_neg (by omega), Int.toNat_natCast, List.take_of_length_le (by omega), List.drop_eq_nil_of_le (by omega), uval_fix' hx]
  have hun2 : Ev (fun k => vary_Unfix.f k ((fixN s x).take (s - 1)) (s : Int)) (0, [], 5) := by
    refine Ev.eq (vary_Unfix_ev _ s (hbx.take _) (by rw [List.length_take]; omega) (by omega)) ?_
    unfold unfixS
    rw [if_neg (by omega), if_pos (by rw [List.length_take]; omega)]
  have hm : mn ((fixN s x).length : Int) (wrap64 ((s : Int) - 1)) = ((s - 1 : Nat) : Int) := by
    rw [w64_in (by omega) (by omega), hlx]
    unfold mn; split <;> omega
  have hless : ((decide ((x : Int) < (y : Int))) == (Op.bytesLess ((strOfNums (fixN s x)).toList) ((strOfNums (fixN s y)).toList))) = true := by
    rw [less_lex hbx (fixN_bs s y), lex_fix' hx hy]
    simp
  refine Ev.step (fun k => creellaw01_VaryOrder.j0.eq_2 _ _ _ _ _ _) ?_
  refine ev_bind hfx (ev_bind hfy (ev_bind hun ?_))
  rw [hm]
  clear hm
  rw [Int.toNat_natCast]
  refine ev_pos (by omega) (ev_pos (by omega) (ev_bind hun2 (ev_pos rfl (ev_pos (by omega) (ev_pos (by omega) (ev_pos hless (ev_pos rfl (ev_pos rfl (ev_pos rfl (ev_pos rfl (ev_bind hfa ?_))))))))))) 
  exact Ev.step (fun k => creellaw01_VaryOrder.j1.eq_2 _ _) (ev_val (beq_self_eq_true _))
theorem VaryOrder : creellaw01_VaryOrder.Pure := by
  intro a0 b0 c0 ha hb hc
  obtain ⟨a00, a01⟩ := wf_u64 ha
  obtain ⟨b00, b01⟩ := wf_u64 hb
  obtain ⟨c00, c01⟩ := wf_u8 hc
  obtain ⟨a, rfl⟩ := Int.eq_ofNat_of_zero_le a00
  obtain ⟨b, rfl⟩ := Int.eq_ofNat_of_zero_le b00
  obtain ⟨c, rfl⟩ := Int.eq_ofNat_of_zero_le c00
  obtain ⟨s, hs, h1, h8⟩ : ∃ s : Nat, wrap64 ((wrap64 (Int.tmod (c : Int) 8)) + 1) = (s : Int) ∧ 1 ≤ s ∧ s ≤ 8 := by
    refine ⟨c % 8 + 1, ?_, by omega, by omega⟩
    rw [Int.tmod_eq_emod_of_nonneg (by omega), w64_in (n := (c : Int) % 8) (by omega) (by omega), w64_in (by omega) (by omega)]
    omega
  refine Ev.rounds ?_
  unfold creellaw01_VaryOrder.f
  rw [hs]
  clear hs
  refine ev_bind shown1_ev ?_
  by_cases h : s < 8
  · have hw : wrap64 (8 * (s : Int)) = ((8 * s : Nat) : Int) := by rw [w64_in (by omega) (by omega)]; omega
    have hP7 : 256 ^ s ≤ 256 ^ 7 := Nat.pow_le_pow_right (by decide) (by omega)
    have hP0 : 0 < 256 ^ s := Nat.pow_pos (by decide)
    have hshl : shl .u64 1 ((8 * s : Nat) : Int) = ((256 ^ s : Nat) : Int) := by
      rw [shl64 _ _ (by omega) (by omega), Int.toNat_natCast, pow256, u64_in (by omega) (by omega)]
      omega
    rw [hw, hshl]
    clear hw hshl
    have hma : Int.tmod (a : Int) ((256 ^ s : Nat) : Int) = ((a % 256 ^ s : Nat) : Int) := by rw [Int.tmod_eq_emod_of_nonneg (by omega), Int.natCast_emod]
    have hmb : Int.tmod (b : Int) ((256 ^ s : Nat) : Int) = ((b % 256 ^ s : Nat) : Int) := by rw [Int.tmod_eq_emod_of_nonneg (by omega), Int.natCast_emod]
    rw [hma, hmb]
    clear hma hmb
    have ha1 := Nat.mod_lt a hP0
    have hb1 := Nat.mod_lt b hP0
    have hf := fixN_mod s a
    have hend := order_end a (a % 256 ^ s) (b % 256 ^ s) s h1 h8 (by omega) ha1 hb1 (by omega) (by omega) hf.symm
    exact ev_pos (by omega) (ev_pos (by omega) (ev_neg (by omega) hend))
  · obtain rfl : s = 8 := by omega
    exact ev_neg (by omega) (order_end a a b 8 h1 h8 (by omega) (by show a < 256 ^ 8; omega) (by show b < 256 ^ 8; omega) (by omega) (by omega) rfl)

end Go.Proofs.Ytfhbeghmlfjfjaa.Pure
