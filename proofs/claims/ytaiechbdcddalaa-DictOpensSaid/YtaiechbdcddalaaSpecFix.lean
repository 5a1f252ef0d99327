/- What Fix and Unfix (layer 1), and their reference, compute, told by the plain laws. -/
import Derived.Test.YtaiechbdcddalaaPrint1
import Derived.Test.YtaiechbdcddalaaPrint4
import Derived.Test.YtaiechbdcddalaaPrint12
import Derived.Test.YtaiechbdcddalaaPrint3
import Derived.Test.YtaiechbdcddalaaPrint11
import Derived.Test.YtaiechbdcddalaaSpecVT
import Derived.Test.YtaiechbdcddalaaSpecTools
set_option linter.unusedVariables false
set_option linter.unusedSimpArgs false
namespace Go.Proofs.Ytaiechbdcddalaa.Plain
open Go.RowKit Go.Proofs.YtaiechbdcddalaaW.PrintWords Go.Proofs.YtaiechbdcddalaaW.PrintLast Go.Proofs.YtaiechbdcddalaaW.PrintMore Go.Proofs.Ytaiechbdcddalaa.Print

/-! ### Fix -/
theorem pow256 (i : Nat) : (2 : Int) ^ (8 * i) = ((256 ^ i : Nat) : Int) := by rw [Int.pow_mul, show (2 : Int) ^ 8 = ((256 : Nat) : Int) by decide, Int.natCast_pow]
theorem byte_at (n P : Nat) : ((n : Int) / (P : Int)) % 256 = ((n / P % 256 : Nat) : Int) := by rw [Int.natCast_emod, Int.natCast_ediv]; rfl
theorem vary_Fix_loop (n : Nat) (hn : n < 18446744073709551616) (s : Nat) : ∀ (out : List Int), s ≤ 8 → out.length + s ≤ 140737488355000 → Ev (fun k => vary_Fix.l0 k n out ((s : Int) - 1)) (out ++ fixN s n) := by
  induction s with
  | zero =>
    intro out _ _
    refine some_ev fun k => ?_
    simp only [vary_Fix.l0]
    rw [if_neg (by omega)]; simp [fixN]
  | succ s ih =>
    intro out hs hl
    have := ih (out ++ [((n / 256 ^ s % 256 : Nat) : Int)]) (by omega) (by simp; omega)
    rw [List.append_assoc] at this
    refine Ev.step (f := fun k => vary_Fix.l0 k n (out ++ [((n / 256 ^ s % 256 : Nat) : Int)]) ((s : Int) - 1)) (fun k => ?_) this
    simp only [vary_Fix.l0]
    rw [show ((s + 1 : Nat) : Int) - 1 = (s : Int) by omega, w64_in (n := 8 * (s : Int)) (by omega) (by omega), w64_in (n := (s : Int) - 1) (by omega) (by omega)]
    rw [if_pos (by omega), if_pos (by omega), if_pos (by omega), shr64 _ _ (by omega) (by omega), show (8 * (s : Int)).toNat = 8 * s by omega, pow256, byte_at]
theorem vary_Fix_ev (l : List Int) (n s : Nat) (hn : n < 18446744073709551616) (h1 : 1 ≤ s) (h8 : s ≤ 8) (hl : l.length ≤ 140737488354000) : Ev (fun k => vary_Fix.f k l n s) (l ++ fixN s n) := by
  unfold vary_Fix.f
  rw [clone_eq (by omega)]
  simp only [Option.bind_some]
  refine Ev.congr (f := fun k => vary_Fix.j0 k n s l (decide ((s : Int) > 8))) (fun k => by rw [if_neg (by omega)]) ?_
  rw [decide_eq_false (by omega)]
  refine Ev.step (f := fun k => vary_Fix.l0 k n l ((s : Int) - 1)) (fun k => ?_) (vary_Fix_loop n hn s l h8 (by omega))
  simp only [vary_Fix.j0]
  rw [if_neg (by decide), w64_in (by omega) (by omega)]

/-! ### Unfix -/
def unfixS (l : List Int) (size : Int) : Int × List Int × Int :=
  if size < 1 ∨ 8 < size then (0, [], 1) else if (l.length : Int) < size then (0, [], 5) else ((uval 0 (l.take size.toNat) : Int), l.drop size.toNat, 0)
theorem unfix_step {x c : Nat} (hx : x < 72057594037927936) (hc : c < 256) : Go.bits .or .u64 (IntKind.u64.wrap ((x : Int) * 256)) (IntKind.u64.wrap (c : Int)) = ((x * 256 + c : Nat) : Int) := by
  rw [u64_in (n := (x : Int) * 256) (by omega) (by omega), u64_in (n := (c : Int)) (by omega) (by omega), or_comm_bits]
  have := or_sum 8 (acc := (c : Int)) (x := (x : Int)) (by omega) (by omega) (by omega) (by omega) (by omega)
  rw [show (2 : Int) ^ 8 = 256 by decide] at this
  rw [this]; omega
theorem vary_Unfix_loop (l : List Int) (hl : l.length ≤ 140737488355000) (m : List Int) (hm : Bs m) (size : Nat) (hs : size ≤ l.length) (h8 : m.length ≤ 8) : ∀ (rest : List Int) (i a : Nat), m.drop i = rest → i ≤ m.length → a < 256 ^ i →
    Ev (fun k => vary_Unfix.l0 k l size a m m.length i) ((uval a rest : Int), l.drop size, 0) := by
  intro rest
  induction rest with
  | nil =>
    intro i a hd hi ha
    have he := drop_len hi hd
    refine some_ev fun k => ?_
    simp only [vary_Unfix.l0]
    rw [if_neg (by omega), if_pos (by omega), if_pos (by omega), show ((size : Int)).toNat = size by omega, clone_eq (by rw [List.length_drop]; omega)]
    rfl
  | cons c r ih =>
    intro i a hd hi ha
    have hlt : i < m.length := by
      rcases Nat.lt_or_ge i m.length with h | h
      · exact h
      · rw [List.drop_eq_nil_of_le h] at hd; simp at hd
    have hcr := rd_drop hlt
    have hbc := rd_bs hm hlt
    rw [hd] at hcr
    obtain ⟨hc, hr⟩ := List.cons.inj hcr
    obtain ⟨d, hdd⟩ := Int.eq_ofNat_of_zero_le hbc.1
    have hp7 : 256 ^ i ≤ 256 ^ 7 := Nat.pow_le_pow_right (by decide) (by omega)
    have h7 : (256 : Nat) ^ 7 = 72057594037927936 := by decide
    refine Ev.step (f := fun k => vary_Unfix.l0 k l size ((a * 256 + c.toNat : Nat) : Int) m m.length ((i + 1 : Nat) : Int)) (fun k => ?_) (ih (i + 1) (a * 256 + c.toNat) hr.symm (by omega) (by rw [Nat.pow_succ]; omega))
    simp only [vary_Unfix.l0]
    rw [if_pos (by omega), if_pos (by omega), if_pos (by omega), hdd, unfix_step (by omega) (by omega), w64_in (by omega) (by omega), show c.toNat = d by omega]
    rfl
theorem vary_Unfix_ev (l : List Int) (size : Int) (hb : Bs l) (hl : l.length ≤ 140737488355000) (hs : -9223372036854775808 ≤ size) : Ev (fun k => vary_Unfix.f k l size) (unfixS l size) := by
  unfold vary_Unfix.f unfixS
  by_cases h : size < 1 ∨ 8 < size
  · rw [if_pos h]
    refine Ev.congr (f := fun k => vary_Unfix.j0 k l size true) (fun k => ?_) (some_ev fun k => by simp only [vary_Unfix.j0]; rw [if_pos trivial])
    by_cases h1 : size < 1
    · rw [if_pos h1]
    · rw [if_neg h1, decide_eq_true (by omega)]
  · rw [if_neg h]
    refine Ev.congr (f := fun k => vary_Unfix.j0 k l size false) (fun k => by rw [if_neg (by omega), decide_eq_false (by omega)]) ?_
    by_cases h2 : (l.length : Int) < size
    · rw [if_pos h2]
      exact some_ev fun k => by simp only [vary_Unfix.j0]; rw [if_neg (by decide), if_pos h2]
    · rw [if_neg h2]
      obtain ⟨s, rfl⟩ := Int.eq_ofNat_of_zero_le (show 0 ≤ size by omega)
      have hlen : (l.take s).length = s := by rw [List.length_take]; omega
      refine Ev.step (f := fun k => vary_Unfix.l0 k l s ((0 : Nat) : Int) (l.take s) (l.take s).length ((0 : Nat) : Int)) (fun k => ?_) (vary_Unfix_loop l hl (l.take s) (hb.take s) s (by omega) (by omega) _ 0 0 rfl (by omega) (by decide))
      simp only [vary_Unfix.j0]
      rw [if_neg (by decide), if_neg h2, if_pos (by omega), if_pos (by omega)]
      rfl

/-! ### The reference's Unfix, Fix -/
theorem ref_Unfix_loop (l : List Int) (hl : l.length ≤ 140737488355000) (hb : Bs l) (size : Nat) (hs : size ≤ l.length) (h8 : size ≤ 8) : ∀ (d i a : Nat), i + d = size → a < 256 ^ i →
    Ev (fun k => creelref01_Unfix.l0 k l size a i) ((uval a ((l.take size).drop i) : Int), l.drop size, 0) := by
  intro d
  induction d with
  | zero =>
    intro i a hi ha
    obtain rfl : i = size := by omega
    rw [List.drop_eq_nil_of_le (by rw [List.length_take]; omega)]
    refine some_ev fun k => ?_
    simp only [creelref01_Unfix.l0, Option.bind_some, List.nil_append, List.length_nil]
    rw [if_neg (by omega), if_pos (by omega), if_pos (by omega), show ((i : Int)).toNat = i by omega, if_pos (by rw [List.length_drop]; omega)]
    rfl
  | succ d ih =>
    intro i a hi ha
    have hlt : i < (l.take size).length := by rw [List.length_take]; omega
    have hrd : rd (l.take size) (i : Int) = rd l (i : Int) := by
      simp [rd, List.getD_eq_getElem?_getD, List.getElem?_take, show i < size by omega]
    have hbc := rd_bs hb (show i < l.length by omega)
    obtain ⟨c, hc⟩ := Int.eq_ofNat_of_zero_le hbc.1
    have hp7 : 256 ^ i ≤ 256 ^ 7 := Nat.pow_le_pow_right (by decide) (by omega)
    have h7 : (256 : Nat) ^ 7 = 72057594037927936 := by decide
    rw [rd_drop hlt, hrd, hc]
    refine Ev.step (f := fun k => creelref01_Unfix.l0 k l size ((a * 256 + c : Nat) : Int) ((i + 1 : Nat) : Int)) (fun k => ?_) (ih (i + 1) (a * 256 + c) (by omega) (by rw [Nat.pow_succ]; omega))
    simp only [creelref01_Unfix.l0]
    rw [if_pos (by omega), if_pos (by omega), if_pos (by omega), hc, u64_in (n := (a : Int) * 256) (by omega) (by omega), u64_in (n := (c : Int)) (by omega) (by omega), u64_in (by omega) (by omega), w64_in (by omega) (by omega)]
    rfl
theorem ref_Unfix_ev (l : List Int) (size : Int) (hb : Bs l) (hl : l.length ≤ 140737488355000) (hs : -9223372036854775808 ≤ size) : Ev (fun k => creelref01_Unfix.f k l size) (unfixS l size) := by
  unfold creelref01_Unfix.f unfixS
  by_cases h : size < 1 ∨ 8 < size
  · rw [if_pos h]
    refine Ev.congr (f := fun k => creelref01_Unfix.j0 k l size true) (fun k => ?_) (some_ev fun k => by simp only [creelref01_Unfix.j0]; rw [if_pos trivial])
    by_cases h1 : size < 1
    · rw [if_pos h1]
    · rw [if_neg h1, decide_eq_true (by omega)]
  · rw [if_neg h]
    refine Ev.congr (f := fun k => creelref01_Unfix.j0 k l size false) (fun k => by rw [if_neg (by omega), decide_eq_false (by omega)]) ?_
    by_cases h2 : (l.length : Int) < size
    · rw [if_pos h2]
      exact some_ev fun k => by simp only [creelref01_Unfix.j0]; rw [if_neg (by decide), if_pos h2]
    · rw [if_neg h2]
      obtain ⟨s, rfl⟩ := Int.eq_ofNat_of_zero_le (show 0 ≤ size by omega)
      have := ref_Unfix_loop l hl hb s (by omega) (by omega) s 0 0 (by omega) (by decide)
      rw [List.drop_zero] at this
      refine Ev.step (f := fun k => creelref01_Unfix.l0 k l s ((0 : Nat) : Int) ((0 : Nat) : Int)) (fun k => ?_) this
      simp only [creelref01_Unfix.j0]
      rw [if_neg (by decide), if_neg h2]
      rfl

theorem ref_Fix_inner (n : Nat) (hn : n < 18446744073709551616) (out : List Int) (s : Nat) (hs : s ≤ 8) (hl : out.length < 140737488355328) : ∀ (d j : Nat), j + d = s → ∀ r, Ev (fun k => creelref01_Fix.l0 k n (out ++ [((n / 256 ^ s % 256 : Nat) : Int)]) ((s : Int) - 1)) r →
    Ev (fun k => creelref01_Fix.l1 k n out s ((n / 256 ^ j : Nat) : Int) j) r := by
  intro d
  induction d with
  | zero =>
    intro j hj r hr
    obtain rfl : j = s := by omega
    refine Ev.step (f := fun k => creelref01_Fix.l0 k n (out ++ [((n / 256 ^ j % 256 : Nat) : Int)]) ((j : Int) - 1)) (fun k => ?_) hr
    simp only [creelref01_Fix.l1]
    rw [if_neg (by omega), if_pos (by omega), w64_in (by omega) (by omega), Int.tmod_eq_emod_of_nonneg (Int.natCast_nonneg _)]
    congr 3
    omega
  | succ d ih =>
    intro j hj r hr
    refine Ev.step (f := fun k => creelref01_Fix.l1 k n out s ((n / 256 ^ (j + 1) : Nat) : Int) ((j + 1 : Nat) : Int)) (fun k => ?_) (ih (j + 1) (by omega) r hr)
    simp only [creelref01_Fix.l1]
    have hle : n / 256 ^ j ≤ n := Nat.div_le_self _ _
    have hd : ((n / 256 ^ j : Nat) : Int) / 256 = ((n / 256 ^ (j + 1) : Nat) : Int) := by rw [Nat.pow_succ, ← Nat.div_div_eq_div_mul]; omega
    have hle2 : n / 256 ^ (j + 1) ≤ n := Nat.div_le_self _ _
    rw [if_pos (by omega), w64_in (by omega) (by omega), Int.tdiv_eq_ediv_of_nonneg (Int.natCast_nonneg _), hd, u64_in (Int.natCast_nonneg _) (by omega)]
    rfl
theorem ref_Fix_loop (n : Nat) (hn : n < 18446744073709551616) (s : Nat) : ∀ (out : List Int), s ≤ 8 → out.length + s ≤ 140737488355000 → Ev (fun k => creelref01_Fix.l0 k n out ((s : Int) - 1)) (out ++ fixN s n) := by
  induction s with
  | zero =>
    intro out _ _
    refine some_ev fun k => ?_
    simp only [creelref01_Fix.l0]
    rw [if_neg (by omega)]; simp [fixN]
  | succ s ih =>
    intro out hs hl
    have := ih (out ++ [((n / 256 ^ s % 256 : Nat) : Int)]) (by omega) (by simp; omega)
    rw [List.append_assoc] at this
    have h2 := ref_Fix_inner n hn out s (by omega) (by omega) s 0 (by omega) _ this
    refine Ev.step (f := fun k => creelref01_Fix.l1 k n out s ((n / 256 ^ 0 : Nat) : Int) ((0 : Nat) : Int)) (fun k => ?_) h2
    simp only [creelref01_Fix.l0]
    rw [show ((s + 1 : Nat) : Int) - 1 = (s : Int) by omega, if_pos (by omega)]
    simp
theorem ref_Fix_ev (l : List Int) (n s : Nat) (hn : n < 18446744073709551616) (h1 : 1 ≤ s) (h8 : s ≤ 8) (hl : l.length ≤ 140737488354000) : Ev (fun k => creelref01_Fix.f k l n s) (l ++ fixN s n) := by
  unfold creelref01_Fix.f
  simp only [Option.bind_some, List.nil_append, List.length_nil]
  refine Ev.congr (f := fun k => creelref01_Fix.j0 k n s l (decide ((s : Int) > 8))) (fun k => by rw [if_pos (by omega), if_neg (by omega)]) ?_
  rw [decide_eq_false (by omega)]
  refine Ev.step (f := fun k => creelref01_Fix.l0 k n l ((s : Int) - 1)) (fun k => ?_) (ref_Fix_loop n hn s l h8 (by omega))
  simp only [creelref01_Fix.j0]
  rw [if_neg (by decide), w64_in (by omega) (by omega)]

end Go.Proofs.Ytaiechbdcddalaa.Plain
