/- What the printed functions of layer 1 (vary, and its reference) compute, told by the plain laws. -/
import Derived.Test.YtfhbeghmlfjfjaaPrint6
import Derived.Test.YtfhbeghmlfjfjaaPrint7
import Derived.Test.YtfhbeghmlfjfjaaPrint9
import Derived.Test.YtfhbeghmlfjfjaaPrint13
import Derived.Test.YtfhbeghmlfjfjaaPrint16
import Derived.Test.YtfhbeghmlfjfjaaPrint17
import Derived.Test.YtfhbeghmlfjfjaaSpecTools
set_option linter.unusedVariables false
set_option linter.unusedSimpArgs false
namespace Go.Proofs.Ytfhbeghmlfjfjaa.Plain
open Go.RowKit Go.Proofs.YtfhbeghmlfjfjaaW.PrintWords Go.Proofs.YtfhbeghmlfjfjaaW.PrintLast Go.Proofs.YtfhbeghmlfjfjaaW.PrintMore Go.Proofs.Ytfhbeghmlfjfjaa.Print

theorem clone_eq {l : List Int} (h : l.length < 140737488355328) : slices_Clone_byte_byte.f l = some l := by
  unfold slices_Clone_byte_byte.f
  simp only [Option.bind_some, List.length_nil, List.nil_append]
  rw [if_pos (by omega)]

/-! ### Put -/
theorem vary_Put_loop (n : Nat) : ∀ (out : List Int), n < 18446744073709551616 → out.length + (putN n).length ≤ 140737488355328 → Ev (fun k => vary_Put.l0 k n out) (out ++ putN n) := by
  induction n using Nat.strongRecOn with
  | _ n ih =>
    intro out hn hl
    by_cases h : n < 128
    · rw [putN_small h] at hl ⊢
      refine some_ev fun k => ?_
      simp only [vary_Put.l0, List.length_cons, List.length_nil] at hl ⊢
      rw [if_neg (by omega), if_pos (by omega), show (n : Int) % 256 = n by omega]
    · rw [putN_big h] at hl ⊢
      simp only [List.length_cons] at hl
      have := ih (n / 128) (by omega) (out ++ [((n % 128 + 128 : Nat) : Int)]) (by omega) (by simp; omega)
      rw [List.append_assoc] at this
      refine Ev.step (f := fun k => vary_Put.l0 k ((n / 128 : Nat) : Int) (out ++ [((n % 128 + 128 : Nat) : Int)])) (fun k => ?_) this
      simp only [vary_Put.l0]
      rw [if_pos (by omega), if_pos (by omega), show (n : Int) % 256 = ((n % 256 : Nat) : Int) by omega, or128 _ (by omega), show n % 256 % 128 = n % 128 by omega]
      rfl
theorem vary_Put_ev (l : List Int) (n : Nat) (hn : n < 18446744073709551616) (hl : l.length ≤ 140737488355000) : Ev (fun k => vary_Put.f k l n) (l ++ putN n) := by
  have := putN_len10 hn
  unfold vary_Put.f
  rw [clone_eq (by omega)]
  exact vary_Put_loop n l hn (by omega)

/-! ### Take -/
theorem vary_Take_loop (l : List Int) (hl : l.length ≤ 140737488355000) (hb : Bs l) : ∀ (rest : List Int) (i : Nat) (n acc : Int), l.drop i = rest → i ≤ l.length → i ≤ 10 → (i ≤ 9 → n = acc ∧ 0 ≤ acc ∧ acc < 128 ^ i) →
    Ev (fun k => vary_Take.l0 k l n l l.length i) (takeS i acc rest) := by
  intro rest
  induction rest with
  | nil =>
    intro i n acc hd hi h10 hn
    have he := drop_len hi hd
    unfold takeS
    refine some_ev fun k => ?_
    simp only [vary_Take.l0]
    rw [if_neg (by omega)]
    by_cases h : i < 10
    · rw [if_pos h, if_pos (by omega)]
    · rw [if_neg h, if_neg (by omega)]
  | cons c r ih =>
    intro i n acc hd hi h10 hn
    have hlt : i < l.length := by
      rcases Nat.lt_or_ge i l.length with h | h
      · exact h
      · rw [List.drop_eq_nil_of_le h] at hd; simp at hd
    have hcr := rd_drop hlt
    have hbc := rd_bs hb hlt
    rw [hd] at hcr
    obtain ⟨hc, hr⟩ := List.cons.inj hcr
    obtain ⟨d, hdd⟩ := Int.eq_ofNat_of_zero_le hbc.1
    by_cases hi10 : i = 10
    · subst hi10
      rw [takeS_late (by omega)]
      refine some_ev fun k => ?_
      simp only [vary_Take.l0]
      rw [if_pos (by omega), if_pos (by omega), if_pos (by omega), if_pos (by unfold wrap64; omega), if_pos (by omega), if_neg (by omega)]
    · obtain ⟨rfl, ha0, ha1⟩ := hn (by omega)
      have hw : wrap64 (7 * (i : Int)) = 7 * (i : Int) := w64_in (by omega) (by omega)
      have hw1 : wrap64 ((i : Int) + 1) = ((i + 1 : Nat) : Int) := by rw [w64_in (by omega) (by omega)]; omega
      have hpos := pow128_pos i
      have hpow : ((128 : Int) ^ i) ≤ 128 ^ 9 := by exact_mod_cast Nat.pow_le_pow_right (by decide) (show i ≤ 9 by omega)
      have h9 : (128 : Int) ^ 9 = 9223372036854775808 := by decide
      have hsh : ∀ x : Int, 0 ≤ x → x * 128 ^ i < 18446744073709551616 → Go.bits .or .u64 n (shl .u64 x (7 * (i : Int))) = n + x * 128 ^ i := by
        intro x h0 h1
        have hpp := pow128 i
        rw [shl64 _ _ (by omega) (by omega), show (7 * (i : Int)).toNat = 7 * i by omega, hpp, u64_in (Int.mul_nonneg h0 (Int.le_of_lt hpos)) h1, ← hpp]
        exact or_sum (7 * i) (by omega) ha0 (by rw [hpp]; exact ha1) h0 (by rw [hpp]; exact h1)
      have hx : IntKind.u64.wrap (Go.bits .andNot .u8 (rd l i) 128) = ((d % 128 : Nat) : Int) := by
        rw [hdd, andNot128 d (by omega), u64_in (by omega) (by omega)]
      unfold takeS
      rw [if_neg (by omega)]
      by_cases h128 : 128 ≤ c
      · rw [if_pos h128]
        have hc' : ((d % 128 : Nat) : Int) = c - 128 := by omega
        refine Ev.step (f := fun k => vary_Take.l0 k l (Go.bits .or .u64 n (shl .u64 ((d % 128 : Nat) : Int) (7 * (i : Int)))) l l.length ((i + 1 : Nat) : Int)) (fun k => ?_) (ih (i + 1) _ _ hr.symm (by omega) (by omega) (fun hi9 => ?_))
        · simp only [vary_Take.l0, hw, hx, hw1]
          rw [if_pos (by omega), if_pos (by omega), if_pos (by omega), if_pos (by omega), if_neg (by omega), if_pos (by omega)]
        · have hp8 : ((128 : Int) ^ i) ≤ 128 ^ 8 := by exact_mod_cast Nat.pow_le_pow_right (by decide) (show i ≤ 8 by omega)
          have h8 : (128 : Int) ^ 8 = 72057594037927936 := by decide
          have hm : (c - 128) * 128 ^ i ≤ 127 * 128 ^ i := Int.mul_le_mul_of_nonneg_right (by omega) (Int.le_of_lt hpos)
          have hm0 : 0 ≤ (c - 128) * 128 ^ i := Int.mul_nonneg (by omega) (Int.le_of_lt hpos)
          rw [hc', hsh _ (by omega) (by omega), Int.pow_succ]
          exact ⟨rfl, by omega, by omega⟩
      · rw [if_neg h128]
        have hc' : ((d % 128 : Nat) : Int) = c := by omega
        have hend : ∀ b : Bool, (b = true ↔ c = 0 ∧ 0 < i) → Ev (fun k => vary_Take.j1 k l (Go.bits .or .u64 n (shl .u64 ((d % 128 : Nat) : Int) (7 * (i : Int)))) i c b) (if (c = 0 ∧ 0 < i) ∨ (i = 9 ∧ 1 < c) then (0, [], 6) else (n + c * 128 ^ i, r, 0)) := by
          intro b hbb
          refine some_ev fun k => ?_
          simp only [vary_Take.j1]
          by_cases h1 : c = 0 ∧ 0 < i
          · rw [if_pos (hbb.2 h1), if_pos (.inl h1)]
          · rw [if_neg (fun hb1 => h1 (hbb.1 hb1))]
            by_cases h2 : i = 9 ∧ 1 < c
            · rw [if_pos (by omega), if_pos (by omega), if_pos (.inr h2)]
            · have hm : c * 128 ^ i < 18446744073709551616 := by
                rcases Nat.lt_or_ge i 9 with hi8 | hi9
                · have hp8 : ((128 : Int) ^ i) ≤ 128 ^ 8 := by exact_mod_cast Nat.pow_le_pow_right (by decide) (show i ≤ 8 by omega)
                  have h8 : (128 : Int) ^ 8 = 72057594037927936 := by decide
                  have hm : c * 128 ^ i ≤ 127 * 128 ^ i := Int.mul_le_mul_of_nonneg_right (by omega) (Int.le_of_lt hpos)
                  omega
                · obtain rfl : i = 9 := by omega
                  have : c ≤ 1 := by omega
                  have hm : c * 128 ^ 9 ≤ 1 * 128 ^ 9 := Int.mul_le_mul_of_nonneg_right (by omega) (by decide)
                  omega
              have hcl : slices_Clone_byte_byte.f (l.drop (((i + 1 : Nat) : Int).toNat)) = some r := by
                rw [show (((i + 1 : Nat) : Int).toNat) = i + 1 by omega, ← hr]; exact clone_eq (by rw [hr, List.length_drop]; omega)
              have hR : (if (c = 0 ∧ 0 < i) ∨ (i = 9 ∧ 1 < c) then ((0, [], 6) : Int × List Int × Int) else (n + c * 128 ^ i, r, 0)) = (n + c * 128 ^ i, r, 0) := if_neg (by omega)
              rw [hR, hc', hsh c (by omega) hm]
              simp only [hw1, hcl, Option.bind_some]
              by_cases hi9 : i = 9
              · rw [if_pos (by omega), if_neg (by omega), if_pos (by omega), if_pos (by omega)]
              · rw [if_neg (by omega), if_pos (by omega), if_pos (by omega)]
        rw [← hc] at hx
        by_cases h0 : c = 0
        · refine Ev.step (f := fun k => vary_Take.j1 k l (Go.bits .or .u64 n (shl .u64 ((d % 128 : Nat) : Int) (7 * (i : Int)))) i c (decide ((i : Int) > 0))) (fun k => ?_) (hend _ (by simp [h0]))
          simp only [vary_Take.l0, hw, ← hc, hx]
          rw [if_pos (by omega), if_pos (by omega), if_pos (by omega), if_pos (by omega), if_neg (by omega), if_neg (by omega), if_pos h0]
        · refine Ev.step (f := fun k => vary_Take.j1 k l (Go.bits .or .u64 n (shl .u64 ((d % 128 : Nat) : Int) (7 * (i : Int)))) i c false) (fun k => ?_) (hend _ (by simp [h0]))
          simp only [vary_Take.l0, hw, ← hc, hx]
          rw [if_pos (by omega), if_pos (by omega), if_pos (by omega), if_pos (by omega), if_neg (by omega), if_neg (by omega), if_neg h0]
theorem vary_Take_ev (l : List Int) (hb : Bs l) (hl : l.length ≤ 140737488355000) : Ev (fun k => vary_Take.f k l) (takeN l) := by
  unfold vary_Take.f takeN
  exact vary_Take_loop l hl hb l 0 0 0 (by simp) (by omega) (by omega) (fun _ => ⟨rfl, by omega, by decide⟩)

/-! ### Zig and Zag -/
def zigZ (n : Int) : Int := if n < 0 then -2 * n - 1 else 2 * n
def zagZ (n : Int) : Int := if n % 2 = 1 then -(n / 2) - 1 else n / 2
theorem vary_Zig_eq {n : Int} (h0 : -9223372036854775808 ≤ n) (h1 : n < 9223372036854775808) : vary_Zig.f n = some (zigZ n) := by
  unfold vary_Zig.f zigZ
  by_cases h : n < 0
  · rw [if_pos h, show n / 9223372036854775808 = -1 by omega, show IntKind.u64.wrap (-1) = 18446744073709551615 by decide, xor_ones_u64 (by rw [wrap_u64]; omega) (by rw [wrap_u64]; omega), wrap_u64]
    unfold wrap64
    congr 1; omega
  · rw [if_neg h, show n / 9223372036854775808 = 0 by omega, show IntKind.u64.wrap 0 = 0 by decide, xor_none_u64 (by rw [wrap_u64]; omega) (by rw [wrap_u64]; omega), wrap_u64]
    unfold wrap64
    congr 1; omega
theorem vary_Zag_eq {n : Int} (h0 : 0 ≤ n) (h1 : n < 18446744073709551616) : vary_Zag.f n = some (zagZ n) := by
  unfold vary_Zag.f zagZ
  rw [and_one h0 h1, w64_in (n := n % 2) (by omega) (by omega), w64_in (n := -(n % 2)) (by omega) (by omega), w64_in (n := n / 2) (by omega) (by omega)]
  by_cases h : n % 2 = 1
  · rw [if_pos h, h, xor_ones_i64 (by omega) (by omega)]
  · rw [if_neg h, show n % 2 = 0 by omega, show -(0 : Int) = 0 by omega, xor_none_i64 (by omega) (by omega)]

/-! ### Fix -/
theorem pow256 (i : Nat) : (2 : Int) ^ (8 * i) = ((256 ^ i : Nat) : Int) := by rw [Int.pow_mul, show (2 : Int) ^ 8 = ((256 : Nat) : Int) by decide, Int.natCast_pow]
theorem byte_at (n P : Nat) : ((n : Int) / (P : Int)) % 256 = ((n / P % 256 : Nat) : Int) := by rw [Int.natCast_emod, Int.natCast_ediv]; rfl
theorem vary_Fix_loop (n : Nat) (hn : n < 18446744073709551616) (s : Nat) : ∀ (out : List Int), s ≤ 8 → out.length + s ≤ 140737488355000 → Ev (fun k => vary_Fix.l0 k n out ((s : Int) - 1)) (out ++ fixN s n) := by
  induction s with
  | zero =>
    intro out _ _
    refine some_ev fun k => ?_
    simp only [vary_Fix.l0]
    rw [if_neg (by omega)]; simp [fixN]
  | succ s ih =>
    intro out hs hl
    have := ih (out ++ [((n / 256 ^ s % 256 : Nat) : Int)]) (by omega) (by simp; omega)
    rw [List.append_assoc] at this
    refine Ev.step (f := fun k => vary_Fix.l0 k n (out ++ [((n / 256 ^ s % 256 : Nat) : Int)]) ((s : Int) - 1)) (fun k => ?_) this
    simp only [vary_Fix.l0]
    rw [show ((s + 1 : Nat) : Int) - 1 = (s : Int) by omega, w64_in (n := 8 * (s : Int)) (by omega) (by omega), w64_in (n := (s : Int) - 1) (by omega) (by omega)]
    rw [if_pos (by omega), if_pos (by omega), if_pos (by omega), shr64 _ _ (by omega) (by omega), show (8 * (s : Int)).toNat = 8 * s by omega, pow256, byte_at]
theorem vary_Fix_ev (l : List Int) (n s : Nat) (hn : n < 18446744073709551616) (h1 : 1 ≤ s) (h8 : s ≤ 8) (hl : l.length ≤ 140737488354000) : Ev (fun k => vary_Fix.f k l n s) (l ++ fixN s n) := by
  unfold vary_Fix.f
  rw [clone_eq (by omega)]
  simp only [Option.bind_some]
  refine Ev.congr (f := fun k => vary_Fix.j0 k n s l (decide ((s : Int) > 8))) (fun k => by rw [if_neg (by omega)]) ?_
  rw [decide_eq_false (by omega)]
  refine Ev.step (f := fun k => vary_Fix.l0 k n l ((s : Int) - 1)) (fun k => ?_) (vary_Fix_loop n hn s l h8 (by omega))
  simp only [vary_Fix.j0]
  rw [if_neg (by decide), w64_in (by omega) (by omega)]

/-! ### Unfix -/
def unfixS (l : List Int) (size : Int) : Int × List Int × Int :=
  if size < 1 ∨ 8 < size then (0, [], 1) else if (l.length : Int) < size then (0, [], 5) else ((uval 0 (l.take size.toNat) : Int), l.drop size.toNat, 0)
theorem uval_small {a : Nat} {l : List Int} (hl : Bs l) (ha : a < 256 ^ (8 - l.length)) (h8 : l.length ≤ 8) : uval a l < 18446744073709551616 := by
  rw [uval_acc]
  have h1 := uval_lt l hl
  have h2 : a + 1 ≤ 256 ^ (8 - l.length) := ha
  have h3 := Nat.mul_le_mul_right (256 ^ l.length) h2
  rw [← Nat.pow_add, show 8 - l.length + l.length = 8 by omega, Nat.add_mul] at h3
  omega
theorem unfix_step {x c : Nat} (hx : x < 72057594037927936) (hc : c < 256) : Go.bits .or .u64 (IntKind.u64.wrap ((x : Int) * 256)) (IntKind.u64.wrap (c : Int)) = ((x * 256 + c : Nat) : Int) := by
  rw [u64_in (n := (x : Int) * 256) (by omega) (by omega), u64_in (n := (c : Int)) (by omega) (by omega), or_comm_bits]
  have := or_sum 8 (acc := (c : Int)) (x := (x : Int)) (by omega) (by omega) (by omega) (by omega) (by omega)
  rw [show (2 : Int) ^ 8 = 256 by decide] at this
  rw [this]; omega
theorem vary_Unfix_loop (l : List Int) (hl : l.length ≤ 140737488355000) (m : List Int) (hm : Bs m) (size : Nat) (hs : size ≤ l.length) (h8 : m.length ≤ 8) : ∀ (rest : List Int) (i a : Nat), m.drop i = rest → i ≤ m.length → a < 256 ^ i →
    Ev (fun k => vary_Unfix.l0 k l size a m m.length i) ((uval a rest : Int), l.drop size, 0) := by
  intro rest
  induction rest with
  | nil =>
    intro i a hd hi ha
    have he := drop_len hi hd
    refine some_ev fun k => ?_
    simp only [vary_Unfix.l0]
    rw [if_neg (by omega), if_pos (by omega), if_pos (by omega), show ((size : Int)).toNat = size by omega, clone_eq (by rw [List.length_drop]; omega)]
    rfl
  | cons c r ih =>
    intro i a hd hi ha
    have hlt : i < m.length := by
      rcases Nat.lt_or_ge i m.length with h | h
      · exact h
      · rw [List.drop_eq_nil_of_le h] at hd; simp at hd
    have hcr := rd_drop hlt
    have hbc := rd_bs hm hlt
    rw [hd] at hcr
    obtain ⟨hc, hr⟩ := List.cons.inj hcr
    obtain ⟨d, hdd⟩ := Int.eq_ofNat_of_zero_le hbc.1
    have hp7 : 256 ^ i ≤ 256 ^ 7 := Nat.pow_le_pow_right (by decide) (by omega)
    have h7 : (256 : Nat) ^ 7 = 72057594037927936 := by decide
    refine Ev.step (f := fun k => vary_Unfix.l0 k l size ((a * 256 + c.toNat : Nat) : Int) m m.length ((i + 1 : Nat) : Int)) (fun k => ?_) (ih (i + 1) (a * 256 + c.toNat) hr.symm (by omega) (by rw [Nat.pow_succ]; omega))
    simp only [vary_Unfix.l0]
    rw [if_pos (by omega), if_pos (by omega), if_pos (by omega), hdd, unfix_step (by omega) (by omega), w64_in (by omega) (by omega), show c.toNat = d by omega]
    rfl
theorem vary_Unfix_ev (l : List Int) (size : Int) (hb : Bs l) (hl : l.length ≤ 140737488355000) (hs : -9223372036854775808 ≤ size) : Ev (fun k => vary_Unfix.f k l size) (unfixS l size) := by
  unfold vary_Unfix.f unfixS
  by_cases h : size < 1 ∨ 8 < size
  · rw [if_pos h]
    refine Ev.congr (f := fun k => vary_Unfix.j0 k l size true) (fun k => ?_) (some_ev fun k => by simp only [vary_Unfix.j0]; rw [if_pos trivial])
    by_cases h1 : size < 1
    · rw [if_pos h1]
    · rw [if_neg h1, decide_eq_true (by omega)]
  · rw [if_neg h]
    refine Ev.congr (f := fun k => vary_Unfix.j0 k l size false) (fun k => by rw [if_neg (by omega), decide_eq_false (by omega)]) ?_
    by_cases h2 : (l.length : Int) < size
    · rw [if_pos h2]
      exact some_ev fun k => by simp only [vary_Unfix.j0]; rw [if_neg (by decide), if_pos h2]
    · rw [if_neg h2]
      obtain ⟨s, rfl⟩ := Int.eq_ofNat_of_zero_le (show 0 ≤ size by omega)
      have hlen : (l.take s).length = s := by rw [List.length_take]; omega
      refine Ev.step (f := fun k => vary_Unfix.l0 k l s ((0 : Nat) : Int) (l.take s) (l.take s).length ((0 : Nat) : Int)) (fun k => ?_) (vary_Unfix_loop l hl (l.take s) (hb.take s) s (by omega) (by omega) _ 0 0 rfl (by omega) (by decide))
      simp only [vary_Unfix.j0]
      rw [if_neg (by decide), if_neg h2, if_pos (by omega), if_pos (by omega)]
      rfl

/-! ### The reference's Unfix, Take, Put, Fix -/
theorem ref_Unfix_loop (l : List Int) (hl : l.length ≤ 140737488355000) (hb : Bs l) (size : Nat) (hs : size ≤ l.length) (h8 : size ≤ 8) : ∀ (d i a : Nat), i + d = size → a < 256 ^ i →
    Ev (fun k => creelref01_Unfix.l0 k l size a i) ((uval a ((l.take size).drop i) : Int), l.drop size, 0) := by
  intro d
  induction d with
  | zero =>
    intro i a hi ha
    obtain rfl : i = size := by omega
    rw [List.drop_eq_nil_of_le (by rw [List.length_take]; omega)]
    refine some_ev fun k => ?_
    simp only [creelref01_Unfix.l0, Option.bind_some, List.nil_append, List.length_nil]
    rw [if_neg (by omega), if_pos (by omega), if_pos (by omega), show ((i : Int)).toNat = i by omega, if_pos (by rw [List.length_drop]; omega)]
    rfl
  | succ d ih =>
    intro i a hi ha
    have hlt : i < (l.take size).length := by rw [List.length_take]; omega
    have hrd : rd (l.take size) (i : Int) = rd l (i : Int) := by
      simp [rd, List.getD_eq_getElem?_getD, List.getElem?_take, show i < size by omega]
    have hbc := rd_bs hb (show i < l.length by omega)
    obtain ⟨c, hc⟩ := Int.eq_ofNat_of_zero_le hbc.1
    have hp7 : 256 ^ i ≤ 256 ^ 7 := Nat.pow_le_pow_right (by decide) (by omega)
    have h7 : (256 : Nat) ^ 7 = 72057594037927936 := by decide
    rw [rd_drop hlt, hrd, hc]
    refine Ev.step (f := fun k => creelref01_Unfix.l0 k l size ((a * 256 + c : Nat) : Int) ((i + 1 : Nat) : Int)) (fun k => ?_) (ih (i + 1) (a * 256 + c) (by omega) (by rw [Nat.pow_succ]; omega))
    simp only [creelref01_Unfix.l0]
    rw [if_pos (by omega), if_pos (by omega), if_pos (by omega), hc, u64_in (n := (a : Int) * 256) (by omega) (by omega), u64_in (n := (c : Int)) (by omega) (by omega), u64_in (by omega) (by omega), w64_in (by omega) (by omega)]
    rfl
theorem ref_Unfix_ev (l : List Int) (size : Int) (hb : Bs l) (hl : l.length ≤ 140737488355000) (hs : -9223372036854775808 ≤ size) : Ev (fun k => creelref01_Unfix.f k l size) (unfixS l size) := by
  unfold creelref01_Unfix.f unfixS
  by_cases h : size < 1 ∨ 8 < size
  · rw [if_pos h]
    refine Ev.congr (f := fun k => creelref01_Unfix.j0 k l size true) (fun k => ?_) (some_ev fun k => by simp only [creelref01_Unfix.j0]; rw [if_pos trivial])
    by_cases h1 : size < 1
    · rw [if_pos h1]
    · rw [if_neg h1, decide_eq_true (by omega)]
  · rw [if_neg h]
    refine Ev.congr (f := fun k => creelref01_Unfix.j0 k l size false) (fun k => by rw [if_neg (by omega), decide_eq_false (by omega)]) ?_
    by_cases h2 : (l.length : Int) < size
    · rw [if_pos h2]
      exact some_ev fun k => by simp only [creelref01_Unfix.j0]; rw [if_neg (by decide), if_pos h2]
    · rw [if_neg h2]
      obtain ⟨s, rfl⟩ := Int.eq_ofNat_of_zero_le (show 0 ≤ size by omega)
      have := ref_Unfix_loop l hl hb s (by omega) (by omega) s 0 0 (by omega) (by decide)
      rw [List.drop_zero] at this
      refine Ev.step (f := fun k => creelref01_Unfix.l0 k l s ((0 : Nat) : Int) ((0 : Nat) : Int)) (fun k => ?_) this
      simp only [creelref01_Unfix.j0]
      rw [if_neg (by decide), if_neg h2]
      rfl

theorem ref_Take_loop (l : List Int) (hl : l.length ≤ 140737488355000) (hb : Bs l) : ∀ (rest : List Int) (i : Nat) (n acc w : Int), l.drop i = rest → i ≤ l.length → i ≤ 10 → (i ≤ 9 → n = acc ∧ 0 ≤ acc ∧ acc < 128 ^ i ∧ w = 128 ^ i) →
    Ev (fun k => creelref01_Take.l0 k l n w i) (takeS i acc rest) := by
  intro rest
  induction rest with
  | nil =>
    intro i n acc w hd hi h10 hn
    have he := drop_len hi hd
    unfold takeS
    refine some_ev fun k => ?_
    simp only [creelref01_Take.l0]
    by_cases h : i < 10
    · rw [if_pos h, if_pos (by omega), if_pos (by omega)]
    · rw [if_neg h, if_neg (by omega)]
  | cons c r ih =>
    intro i n acc w hd hi h10 hn
    have hlt : i < l.length := by
      rcases Nat.lt_or_ge i l.length with h | h
      · exact h
      · rw [List.drop_eq_nil_of_le h] at hd; simp at hd
    have hcr := rd_drop hlt
    have hbc := rd_bs hb hlt
    rw [hd] at hcr
    obtain ⟨hc, hr⟩ := List.cons.inj hcr
    by_cases hi10 : i = 10
    · subst hi10
      rw [takeS_late (by omega)]
      refine some_ev fun k => ?_
      simp only [creelref01_Take.l0]
      rw [if_neg (by omega)]
    · obtain ⟨rfl, ha0, ha1, rfl⟩ := hn (by omega)
      have hw1 : wrap64 ((i : Int) + 1) = ((i + 1 : Nat) : Int) := by rw [w64_in (by omega) (by omega)]; omega
      have hpos := pow128_pos i
      have hpow : ((128 : Int) ^ i) ≤ 128 ^ 9 := by exact_mod_cast Nat.pow_le_pow_right (by decide) (show i ≤ 9 by omega)
      have h9 : (128 : Int) ^ 9 = 9223372036854775808 := by decide
      have hx : IntKind.u64.wrap (rd l i) = c := by rw [← hc, u64_in (by omega) (by omega)]
      unfold takeS
      rw [if_neg (by omega)]
      by_cases h128 : 128 ≤ c
      · rw [if_pos h128]
        have hm : (c - 128) * 128 ^ i ≤ 127 * 128 ^ i := Int.mul_le_mul_of_nonneg_right (by omega) (Int.le_of_lt hpos)
        have hm0 : 0 ≤ (c - 128) * 128 ^ i := Int.mul_nonneg (by omega) (Int.le_of_lt hpos)
        refine Ev.step (f := fun k => creelref01_Take.l0 k l (IntKind.u64.wrap (n + IntKind.u64.wrap ((c - 128) * 128 ^ i))) (IntKind.u64.wrap (128 ^ i * 128)) ((i + 1 : Nat) : Int)) (fun k => ?_) (ih (i + 1) _ _ _ hr.symm (by omega) (by omega) (fun hi9 => ?_))
        · simp only [creelref01_Take.l0, hx, hw1]
          rw [if_pos (by omega), if_neg (by omega), if_pos (by omega), if_pos (by omega), if_neg (by omega), u64_in (n := c - 128) (by omega) (by omega)]
        · have hp8 : ((128 : Int) ^ i) ≤ 128 ^ 8 := by exact_mod_cast Nat.pow_le_pow_right (by decide) (show i ≤ 8 by omega)
          have h8 : (128 : Int) ^ 8 = 72057594037927936 := by decide
          rw [u64_in (n := (c - 128) * 128 ^ i) (by omega) (by omega), u64_in (n := n + (c - 128) * 128 ^ i) (by omega) (by omega), u64_in (n := 128 ^ i * 128) (by omega) (by omega), Int.pow_succ]
          exact ⟨rfl, by omega, by omega, rfl⟩
      · rw [if_neg h128]
        have hcl : ([] : List Int) ++ l.drop (((i + 1 : Nat) : Int).toNat) = r := by
          rw [show (((i + 1 : Nat) : Int).toNat) = i + 1 by omega, ← hr]; rfl
        have hlen : ([] : List Int).length + (l.drop (((i + 1 : Nat) : Int).toNat)).length < 140737488355328 := by rw [List.length_drop, List.length_nil]; omega
        by_cases h1 : (c = 0 ∧ 0 < i) ∨ (i = 9 ∧ 1 < c)
        · rw [if_pos h1]
          refine some_ev fun k => ?_
          simp only [creelref01_Take.l0, hx, hw1]
          rw [if_pos (by omega), if_neg (by omega), if_pos (by omega), if_pos (by omega), if_pos (by omega)]
          by_cases h0 : c = 0
          · rw [if_pos h0, if_pos (by omega)]
          · rw [if_neg h0, if_pos (by omega), if_pos (by omega)]
        · rw [if_neg h1]
          have hm : c * 128 ^ i < 18446744073709551616 := by
            rcases Nat.lt_or_ge i 9 with hi8 | hi9
            · have hp8 : ((128 : Int) ^ i) ≤ 128 ^ 8 := by exact_mod_cast Nat.pow_le_pow_right (by decide) (show i ≤ 8 by omega)
              have h8 : (128 : Int) ^ 8 = 72057594037927936 := by decide
              have hm : c * 128 ^ i ≤ 127 * 128 ^ i := Int.mul_le_mul_of_nonneg_right (by omega) (Int.le_of_lt hpos)
              omega
            · obtain rfl : i = 9 := by omega
              have : c ≤ 1 := by omega
              have hm : c * 128 ^ 9 ≤ 1 * 128 ^ 9 := Int.mul_le_mul_of_nonneg_right (by omega) (by decide)
              omega
          have hm0 : 0 ≤ c * 128 ^ i := Int.mul_nonneg (by omega) (Int.le_of_lt hpos)
          have hsum : n + c * 128 ^ i < 18446744073709551616 := by
            rcases Nat.lt_or_ge i 9 with hi8 | hi9
            · have hp8 : ((128 : Int) ^ i) ≤ 128 ^ 8 := by exact_mod_cast Nat.pow_le_pow_right (by decide) (show i ≤ 8 by omega)
              have h8 : (128 : Int) ^ 8 = 72057594037927936 := by decide
              have hm : c * 128 ^ i ≤ 127 * 128 ^ i := Int.mul_le_mul_of_nonneg_right (by omega) (Int.le_of_lt hpos)
              omega
            · obtain rfl : i = 9 := by omega
              have : c ≤ 1 := by omega
              have hm : c * 128 ^ 9 ≤ 1 * 128 ^ 9 := Int.mul_le_mul_of_nonneg_right (by omega) (by decide)
              omega
          refine some_ev fun k => ?_
          simp only [creelref01_Take.l0, hx, hw1, Option.bind_some, if_pos hlen, hcl, u64_in hm0 hm, u64_in (show 0 ≤ n + c * 128 ^ i by omega) hsum]
          rw [if_pos (by omega), if_neg (by omega), if_pos (by omega), if_pos (by omega), if_pos (by omega)]
          by_cases h0 : c = 0
          · rw [if_pos h0, if_neg (by omega), if_neg (by omega), if_pos (by omega), if_pos (by omega)]
          · rw [if_neg h0]
            by_cases hi9 : i = 9
            · rw [if_pos (by omega), if_neg (by omega), if_pos (by omega), if_pos (by omega)]
            · rw [if_neg (by omega), if_pos (by omega), if_pos (by omega)]
theorem ref_Take_ev (l : List Int) (hb : Bs l) (hl : l.length ≤ 140737488355000) : Ev (fun k => creelref01_Take.f k l) (takeN l) := by
  unfold creelref01_Take.f takeN
  exact ref_Take_loop l hl hb l 0 0 0 1 (by simp) (by omega) (by omega) (fun _ => ⟨rfl, by omega, by decide, by decide⟩)

end Go.Proofs.Ytfhbeghmlfjfjaa.Plain
