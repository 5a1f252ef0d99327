/- What Put, Take, Zig and Zag (layer 1), and their references, compute, told by the plain laws. -/
import Derived.Test.YtaiechbdcddalaaMathGaps
import Derived.Test.YtaiechbdcddalaaSpecWalk
import Derived.Test.YtaiechbdcddalaaPrint1
import Derived.Test.YtaiechbdcddalaaPrint5
import Derived.Test.YtaiechbdcddalaaPrint14
import Derived.Test.YtaiechbdcddalaaPrint10
set_option linter.unusedVariables false
set_option linter.unusedSimpArgs false
namespace Go.Proofs.Ytaiechbdcddalaa.Plain
open Go.RowKit Go.Proofs.YtaiechbdcddalaaW.PrintWords Go.Proofs.YtaiechbdcddalaaW.PrintLast Go.Proofs.YtaiechbdcddalaaW.PrintMore Go.Proofs.Ytaiechbdcddalaa.Print

theorem clone_eq {l : List Int} (h : l.length < 140737488355328) : slices_Clone_byte_byte.f l = some l := by
  unfold slices_Clone_byte_byte.f
  simp only [Option.bind_some, List.length_nil, List.nil_append]
  rw [if_pos (by omega)]

/-! ### Put -/
theorem vary_Put_loop (n : Nat) : ∀ (out : List Int), n < 18446744073709551616 → out.length + (putN n).length ≤ 140737488355328 → Ev (fun k => vary_Put.l0 k n out) (out ++ putN n) := by
  induction n using Nat.strongRecOn with
  | _ n ih =>
    intro out hn hl
    by_cases h : n < 128
    · rw [putN_small h] at hl ⊢
      refine some_ev fun k => ?_
      simp only [vary_Put.l0, List.length_cons, List.length_nil] at hl ⊢
      rw [if_neg (by omega), if_pos (by omega), show (n : Int) % 256 = n by omega]
    · rw [putN_big h] at hl ⊢
      simp only [List.length_cons] at hl
      have := ih (n / 128) (by omega) (out ++ [((n % 128 + 128 : Nat) : Int)]) (by omega) (by simp; omega)
      rw [List.append_assoc] at this
      refine Ev.step (f := fun k => vary_Put.l0 k ((n / 128 : Nat) : Int) (out ++ [((n % 128 + 128 : Nat) : Int)])) (fun k => ?_) this
      simp only [vary_Put.l0]
      rw [if_pos (by omega), if_pos (by omega), show (n : Int) % 256 = ((n % 256 : Nat) : Int) by omega, or128 _ (by omega), show n % 256 % 128 = n % 128 by omega]
      rfl
theorem vary_Put_ev (l : List Int) (n : Nat) (hn : n < 18446744073709551616) (hl : l.length ≤ 140737488355000) : Ev (fun k => vary_Put.f k l n) (l ++ putN n) := by
  have := putN_len10 hn
  unfold vary_Put.f
  rw [clone_eq (by omega)]
  exact vary_Put_loop n l hn (by omega)

/-! ### Take -/
theorem vary_Take_loop (l : List Int) (hl : l.length ≤ 140737488355000) (hb : Bs l) : ∀ (rest : List Int) (i : Nat) (n acc : Int), l.drop i = rest → i ≤ l.length → i ≤ 10 → (i ≤ 9 → n = acc ∧ 0 ≤ acc ∧ acc < 128 ^ i) →
    Ev (fun k => vary_Take.l0 k l n l l.length i) (takeS i acc rest) := by
  intro rest
  induction rest with
  | nil =>
    intro i n acc hd hi h10 hn
    have he := drop_len hi hd
    unfold takeS
    refine some_ev fun k => ?_
    simp only [vary_Take.l0]
    rw [if_neg (by omega)]
    by_cases h : i < 10
    · rw [if_pos h, if_pos (by omega)]
    · rw [if_neg h, if_neg (by omega)]
  | cons c r ih =>
    intro i n acc hd hi h10 hn
    have hlt : i < l.length := by
      rcases Nat.lt_or_ge i l.length with h | h
      · exact h
      · rw [List.drop_eq_nil_of_le h] at hd; simp at hd
    have hcr := rd_drop hlt
    have hbc := rd_bs hb hlt
    rw [hd] at hcr
    obtain ⟨hc, hr⟩ := List.cons.inj hcr
    obtain ⟨d, hdd⟩ := Int.eq_ofNat_of_zero_le hbc.1
    by_cases hi10 : i = 10
    · subst hi10
      rw [takeS_late (by omega)]
      refine some_ev fun k => ?_
      simp only [vary_Take.l0]
      rw [if_pos (by omega), if_pos (by omega), if_pos (by omega), if_pos (by unfold wrap64; omega), if_pos (by omega), if_neg (by omega)]
    · obtain ⟨rfl, ha0, ha1⟩ := hn (by omega)
      have hw : wrap64 (7 * (i : Int)) = 7 * (i : Int) := w64_in (by omega) (by omega)
      have hw1 : wrap64 ((i : Int) + 1) = ((i + 1 : Nat) : Int) := by rw [w64_in (by omega) (by omega)]; omega
      have hpos := pow128_pos i
      have hpow : ((128 : Int) ^ i) ≤ 128 ^ 9 := by exact_mod_cast Nat.pow_le_pow_right (by decide) (show i ≤ 9 by omega)
      have h9 : (128 : Int) ^ 9 = 9223372036854775808 := by decide
      have hsh : ∀ x : Int, 0 ≤ x → x * 128 ^ i < 18446744073709551616 → Go.bits .or .u64 n (shl .u64 x (7 * (i : Int))) = n + x * 128 ^ i := by
        intro x h0 h1
        have hpp := pow128 i
        rw [shl64 _ _ (by omega) (by omega), show (7 * (i : Int)).toNat = 7 * i by omega, hpp, u64_in (Int.mul_nonneg h0 (Int.le_of_lt hpos)) h1, ← hpp]
        exact or_sum (7 * i) (by omega) ha0 (by rw [hpp]; exact ha1) h0 (by rw [hpp]; exact h1)
      have hx : IntKind.u64.wrap (Go.bits .andNot .u8 (rd l i) 128) = ((d % 128 : Nat) : Int) := by
        rw [hdd, andNot128 d (by omega), u64_in (by omega) (by omega)]
      unfold takeS
      rw [if_neg (by omega)]
      by_cases h128 : 128 ≤ c
      · rw [if_pos h128]
        have hc' : ((d % 128 : Nat) : Int) = c - 128 := by omega
        refine Ev.step (f := fun k => vary_Take.l0 k l (Go.bits .or .u64 n (shl .u64 ((d % 128 : Nat) : Int) (7 * (i : Int)))) l l.length ((i + 1 : Nat) : Int)) (fun k => ?_) (ih (i + 1) _ _ hr.symm (by omega) (by omega) (fun hi9 => ?_))
        · simp only [vary_Take.l0, hw, hx, hw1]
          rw [if_pos (by omega), if_pos (by omega), if_pos (by omega), if_pos (by omega), if_neg (by omega), if_pos (by omega)]
        · have hp8 : ((128 : Int) ^ i) ≤ 128 ^ 8 := by exact_mod_cast Nat.pow_le_pow_right (by decide) (show i ≤ 8 by omega)
          have h8 : (128 : Int) ^ 8 = 72057594037927936 := by decide
          have hm : (c - 128) * 128 ^ i ≤ 127 * 128 ^ i := Int.mul_le_mul_of_nonneg_right (by omega) (Int.le_of_lt hpos)
          have hm0 : 0 ≤ (c - 128) * 128 ^ i := Int.mul_nonneg (by omega) (Int.le_of_lt hpos)
          rw [hc', hsh _ (by omega) (by omega), Int.pow_succ]
          exact ⟨rfl, by omega, by omega⟩
      · rw [if_neg h128]
        have hc' : ((d % 128 : Nat) : Int) = c := by omega
        have hend : ∀ b : Bool, (b = true ↔ c = 0 ∧ 0 < i) → Ev (fun k => vary_Take.j1 k l (Go.bits .or .u64 n (shl .u64 ((d % 128 : Nat) : Int) (7 * (i : Int)))) i c b) (if (c = 0 ∧ 0 < i) ∨ (i = 9 ∧ 1 < c) then (0, [], 6) else (n + c * 128 ^ i, r, 0)) := by
          intro b hbb
          refine some_ev fun k => ?_
          simp only [vary_Take.j1]
          by_cases h1 : c = 0 ∧ 0 < i
          · rw [if_pos (hbb.2 h1), if_pos (.inl h1)]
          · rw [if_neg (fun hb1 => h1 (hbb.1 hb1))]
            by_cases h2 : i = 9 ∧ 1 < c
            · rw [if_pos (by omega), if_pos (by omega), if_pos (.inr h2)]
            · have hm : c * 128 ^ i < 18446744073709551616 := by
                rcases Nat.lt_or_ge i 9 with hi8 | hi9
                · have hp8 : ((128 : Int) ^ i) ≤ 128 ^ 8 := by exact_mod_cast Nat.pow_le_pow_right (by decide) (show i ≤ 8 by omega)
                  have h8 : (128 : Int) ^ 8 = 72057594037927936 := by decide
                  have hm : c * 128 ^ i ≤ 127 * 128 ^ i := Int.mul_le_mul_of_nonneg_right (by omega) (Int.le_of_lt hpos)
                  omega
                · obtain rfl : i = 9 := by omega
                  have : c ≤ 1 := by omega
                  have hm : c * 128 ^ 9 ≤ 1 * 128 ^ 9 := Int.mul_le_mul_of_nonneg_right (by omega) (by decide)
                  omega
              have hcl : slices_Clone_byte_byte.f (l.drop (((i + 1 : Nat) : Int).toNat)) = some r := by
                rw [show (((i + 1 : Nat) : Int).toNat) = i + 1 by omega, ← hr]; exact clone_eq (by rw [hr, List.length_drop]; omega)
              have hR : (if (c = 0 ∧ 0 < i) ∨ (i = 9 ∧ 1 < c) then ((0, [], 6) : Int × List Int × Int) else (n + c * 128 ^ i, r, 0)) = (n + c * 128 ^ i, r, 0) := if_neg (by omega)
              rw [hR, hc', hsh c (by omega) hm]
              simp only [hw1, hcl, Option.bind_some]
              by_cases hi9 : i = 9
              · rw [if_pos (by omega), if_neg (by omega), if_pos (by omega), if_pos (by omega)]
              · rw [if_neg (by omega), if_pos (by omega), if_pos (by omega)]
        rw [← hc] at hx
        by_cases h0 : c = 0
        · refine Ev.step (f := fun k => vary_Take.j1 k l (Go.bits .or .u64 n (shl .u64 ((d % 128 : Nat) : Int) (7 * (i : Int)))) i c (decide ((i : Int) > 0))) (fun k => ?_) (hend _ (by simp [h0]))
          simp only [vary_Take.l0, hw, ← hc, hx]
          rw [if_pos (by omega), if_pos (by omega), if_pos (by omega), if_pos (by omega), if_neg (by omega), if_neg (by omega), if_pos h0]
        · refine Ev.step (f := fun k => vary_Take.j1 k l (Go.bits .or .u64 n (shl .u64 ((d % 128 : Nat) : Int) (7 * (i : Int)))) i c false) (fun k => ?_) (hend _ (by simp [h0]))
          simp only [vary_Take.l0, hw, ← hc, hx]
          rw [if_pos (by omega), if_pos (by omega), if_pos (by omega), if_pos (by omega), if_neg (by omega), if_neg (by omega), if_neg h0]
theorem vary_Take_ev (l : List Int) (hb : Bs l) (hl : l.length ≤ 140737488355000) : Ev (fun k => vary_Take.f k l) (takeN l) := by
  unfold vary_Take.f takeN
  exact vary_Take_loop l hl hb l 0 0 0 (by simp) (by omega) (by omega) (fun _ => ⟨rfl, by omega, by decide⟩)

/-! ### Zig and Zag -/
theorem ref_Take_loop (l : List Int) (hl : l.length ≤ 140737488355000) (hb : Bs l) : ∀ (rest : List Int) (i : Nat) (n acc w : Int), l.drop i = rest → i ≤ l.length → i ≤ 10 → (i ≤ 9 → n = acc ∧ 0 ≤ acc ∧ acc < 128 ^ i ∧ w = 128 ^ i) →
    Ev (fun k => creelref01_Take.l0 k l n w i) (takeS i acc rest) := by
  intro rest
  induction rest with
  | nil =>
    intro i n acc w hd hi h10 hn
    have he := drop_len hi hd
    unfold takeS
    refine some_ev fun k => ?_
    simp only [creelref01_Take.l0]
    by_cases h : i < 10
    · rw [if_pos h, if_pos (by omega), if_pos (by omega)]
    · rw [if_neg h, if_neg (by omega)]
  | cons c r ih =>
    intro i n acc w hd hi h10 hn
    have hlt : i < l.length := by
      rcases Nat.lt_or_ge i l.length with h | h
      · exact h
      · rw [List.drop_eq_nil_of_le h] at hd; simp at hd
    have hcr := rd_drop hlt
    have hbc := rd_bs hb hlt
    rw [hd] at hcr
    obtain ⟨hc, hr⟩ := List.cons.inj hcr
    by_cases hi10 : i = 10
    · subst hi10
      rw [takeS_late (by omega)]
      refine some_ev fun k => ?_
      simp only [creelref01_Take.l0]
      rw [if_neg (by omega)]
    · obtain ⟨rfl, ha0, ha1, rfl⟩ := hn (by omega)
      have hw1 : wrap64 ((i : Int) + 1) = ((i + 1 : Nat) : Int) := by rw [w64_in (by omega) (by omega)]; omega
      have hpos := pow128_pos i
      have hpow : ((128 : Int) ^ i) ≤ 128 ^ 9 := by exact_mod_cast Nat.pow_le_pow_right (by decide) (show i ≤ 9 by omega)
      have h9 : (128 : Int) ^ 9 = 9223372036854775808 := by decide
      have hx : IntKind.u64.wrap (rd l i) = c := by rw [← hc, u64_in (by omega) (by omega)]
      unfold takeS
      rw [if_neg (by omega)]
      by_cases h128 : 128 ≤ c
      · rw [if_pos h128]
        have hm : (c - 128) * 128 ^ i ≤ 127 * 128 ^ i := Int.mul_le_mul_of_nonneg_right (by omega) (Int.le_of_lt hpos)
        have hm0 : 0 ≤ (c - 128) * 128 ^ i := Int.mul_nonneg (by omega) (Int.le_of_lt hpos)
        refine Ev.step (f := fun k => creelref01_Take.l0 k l (IntKind.u64.wrap (n + IntKind.u64.wrap ((c - 128) * 128 ^ i))) (IntKind.u64.wrap (128 ^ i * 128)) ((i + 1 : Nat) : Int)) (fun k => ?_) (ih (i + 1) _ _ _ hr.symm (by omega) (by omega) (fun hi9 => ?_))
        · simp only [creelref01_Take.l0, hx, hw1]
          rw [if_pos (by omega), if_neg (by omega), if_pos (by omega), if_pos (by omega), if_neg (by omega), u64_in (n := c - 128) (by omega) (by omega)]
        · have hp8 : ((128 : Int) ^ i) ≤ 128 ^ 8 := by exact_mod_cast Nat.pow_le_pow_right (by decide) (show i ≤ 8 by omega)
          have h8 : (128 : Int) ^ 8 = 72057594037927936 := by decide
          rw [u64_in (n := (c - 128) * 128 ^ i) (by omega) (by omega), u64_in (n := n + (c - 128) * 128 ^ i) (by omega) (by omega), u64_in (n := 128 ^ i * 128) (by omega) (by omega), Int.pow_succ]
          exact ⟨rfl, by omega, by omega, rfl⟩
      · rw [if_neg h128]
        have hcl : ([] : List Int) ++ l.drop (((i + 1 : Nat) : Int).toNat) = r := by
          rw [show (((i + 1 : Nat) : Int).toNat) = i + 1 by omega, ← hr]; rfl
        have hlen : ([] : List Int).length + (l.drop (((i + 1 : Nat) : Int).toNat)).length < 140737488355328 := by rw [List.length_drop, List.length_nil]; omega
        by_cases h1 : (c = 0 ∧ 0 < i) ∨ (i = 9 ∧ 1 < c)
        · rw [if_pos h1]
          refine some_ev fun k => ?_
          simp only [creelref01_Take.l0, hx, hw1]
          rw [if_pos (by omega), if_neg (by omega), if_pos (by omega), if_pos (by omega), if_pos (by omega)]
          by_cases h0 : c = 0
          · rw [if_pos h0, if_pos (by omega)]
          · rw [if_neg h0, if_pos (by omega), if_pos (by omega)]
        · rw [if_neg h1]
          have hm : c * 128 ^ i < 18446744073709551616 := by
            rcases Nat.lt_or_ge i 9 with hi8 | hi9
            · have hp8 : ((128 : Int) ^ i) ≤ 128 ^ 8 := by exact_mod_cast Nat.pow_le_pow_right (by decide) (show i ≤ 8 by omega)
              have h8 : (128 : Int) ^ 8 = 72057594037927936 := by decide
              have hm : c * 128 ^ i ≤ 127 * 128 ^ i := Int.mul_le_mul_of_nonneg_right (by omega) (Int.le_of_lt hpos)
              omega
            · obtain rfl : i = 9 := by omega
              have : c ≤ 1 := by omega
              have hm : c * 128 ^ 9 ≤ 1 * 128 ^ 9 := Int.mul_le_mul_of_nonneg_right (by omega) (by decide)
              omega
          have hm0 : 0 ≤ c * 128 ^ i := Int.mul_nonneg (by omega) (Int.le_of_lt hpos)
          have hsum : n + c * 128 ^ i < 18446744073709551616 := by
            rcases Nat.lt_or_ge i 9 with hi8 | hi9
            · have hp8 : ((128 : Int) ^ i) ≤ 128 ^ 8 := by exact_mod_cast Nat.pow_le_pow_right (by decide) (show i ≤ 8 by omega)
              have h8 : (128 : Int) ^ 8 = 72057594037927936 := by decide
              have hm : c * 128 ^ i ≤ 127 * 128 ^ i := Int.mul_le_mul_of_nonneg_right (by omega) (Int.le_of_lt hpos)
              omega
            · obtain rfl : i = 9 := by omega
              have : c ≤ 1 := by omega
              have hm : c * 128 ^ 9 ≤ 1 * 128 ^ 9 := Int.mul_le_mul_of_nonneg_right (by omega) (by decide)
              omega
          refine some_ev fun k => ?_
          simp only [creelref01_Take.l0, hx, hw1, Option.bind_some, if_pos hlen, hcl, u64_in hm0 hm, u64_in (show 0 ≤ n + c * 128 ^ i by omega) hsum]
          rw [if_pos (by omega), if_neg (by omega), if_pos (by omega), if_pos (by omega), if_pos (by omega)]
          by_cases h0 : c = 0
          · rw [if_pos h0, if_neg (by omega), if_neg (by omega), if_pos (by omega), if_pos (by omega)]
          · rw [if_neg h0]
            by_cases hi9 : i = 9
            · rw [if_pos (by omega), if_neg (by omega), if_pos (by omega), if_pos (by omega)]
            · rw [if_neg (by omega), if_pos (by omega), if_pos (by omega)]
theorem ref_Take_ev (l : List Int) (hb : Bs l) (hl : l.length ≤ 140737488355000) : Ev (fun k => creelref01_Take.f k l) (takeN l) := by
  unfold creelref01_Take.f takeN
  exact ref_Take_loop l hl hb l 0 0 0 1 (by simp) (by omega) (by omega) (fun _ => ⟨rfl, by omega, by decide, by decide⟩)

/-! ### The reference's Put, Zig, Zag -/
theorem ref_Put_loop (n : Nat) : ∀ (out : List Int), n < 18446744073709551616 → out.length + (putN n).length ≤ 140737488355328 → Ev (fun k => creelref01_Put.l0 k n out) (out ++ putN n) := by
  induction n using Nat.strongRecOn with
  | _ n ih =>
    intro out hn hl
    by_cases h : n < 128
    · rw [putN_small h] at hl ⊢
      refine some_ev fun k => ?_
      simp only [creelref01_Put.l0, List.length_cons, List.length_nil] at hl ⊢
      rw [if_neg (by omega), if_pos (by omega), show (n : Int) % 256 = n by omega]
    · rw [putN_big h] at hl ⊢
      simp only [List.length_cons] at hl
      have := ih (n / 128) (by omega) (out ++ [((n % 128 + 128 : Nat) : Int)]) (by omega) (by simp; omega)
      rw [List.append_assoc] at this
      refine Ev.step (f := fun k => creelref01_Put.l0 k ((n / 128 : Nat) : Int) (out ++ [((n % 128 + 128 : Nat) : Int)])) (fun k => ?_) this
      simp only [creelref01_Put.l0]
      rw [if_pos (by omega), if_pos (by omega), Int.tmod_eq_emod_of_nonneg (Int.natCast_nonneg n), Int.tdiv_eq_ediv_of_nonneg (Int.natCast_nonneg n), show ((n : Int) % 128 + 128) % 256 = ((n % 128 + 128 : Nat) : Int) by omega, show (n : Int) / 128 = ((n / 128 : Nat) : Int) by omega, u64_in (by omega) (by omega)]
theorem ref_Put1_ev (l : List Int) (n : Nat) (hn : n < 18446744073709551616) (hl : l.length ≤ 140737488355000) : Ev (fun k => creelref01_Put.f k l n) (l ++ putN n) := by
  have := putN_len10 hn
  unfold creelref01_Put.f
  refine ev_some (ev_pos (by rw [List.length_nil]; omega) ?_)
  rw [List.nil_append]
  exact ref_Put_loop n l hn (by omega)
theorem takeN_facts {l : List Int} (hb : Bs l) : 0 ≤ (takeN l).1 ∧ (takeN l).1 < 18446744073709551616 ∧ Bs (takeN l).2.1 ∧ (takeN l).2.1.length ≤ l.length ∧ ((takeN l).2.2 = 0 → (takeN l).2.1.length < l.length) := by
  rcases takeN_only hb with ⟨m, r, hm, he, ht⟩ | ht | ht
  · rw [ht]
    have := putN_ne m
    have hl : l.length = (putN m).length + r.length := by rw [he, List.length_append]
    exact ⟨Int.natCast_nonneg _, by show (m : Int) < _; omega, (he ▸ hb).of_append_right, by show r.length ≤ _; omega, fun _ => by show r.length < _; omega⟩
  · rw [ht]; exact ⟨by decide, by decide, Bs.nil, by simp, by simp⟩
  · rw [ht]; exact ⟨by decide, by decide, Bs.nil, by simp, by simp⟩

end Go.Proofs.Ytaiechbdcddalaa.Plain
