/- What the printed functions of layer 3 (frame, and its reference) compute, told by the plain laws. -/
import Derived.Test.YtaiechbdcddalaaSpecFix
import Derived.Test.YtaiechbdcddalaaSpecCrc
import Derived.Test.YtaiechbdcddalaaPrint2
import Derived.Test.YtaiechbdcddalaaPrint4
import Derived.Test.YtaiechbdcddalaaPrint3
import Derived.Test.YtaiechbdcddalaaPrint10
import Derived.Test.YtaiechbdcddalaaPrint11
set_option linter.unusedVariables false
set_option linter.unusedSimpArgs false
namespace Go.Proofs.Ytaiechbdcddalaa.Plain
open Go.RowKit Go.Proofs.YtaiechbdcddalaaW.PrintWords Go.Proofs.YtaiechbdcddalaaW.PrintLast Go.Proofs.YtaiechbdcddalaaW.PrintMore Go.Proofs.Ytaiechbdcddalaa.Print

/-! ### The reference's sum -/
theorem entry_bit {c : Int} (h : In32 c) : (if Int.tmod c 2 = 1 then Go.bits .xor .u32 ((Int.tdiv c 2) % 4294967296) 2197175160 else (Int.tdiv c 2) % 4294967296) = crcBit c := by
  have h0 := h.1
  have h1 := h.2
  rw [Int.tmod_eq_emod_of_nonneg h0, Int.tdiv_eq_ediv_of_nonneg h0, show c / 2 % 4294967296 = c / 2 by omega]
  unfold crcBit
  rw [and_one32 h]
  by_cases hb : c % 2 = 1
  · rw [if_pos hb, hb, show Go.bits .and .u32 2197175160 (-1 % 4294967296) = 2197175160 by decide]
  · rw [if_neg hb, show c % 2 = 0 by omega, show Go.bits .and .u32 2197175160 (-0 % 4294967296) = 0 by decide]
    apply (B_inj (by unfold In32; omega) (xor_in _ _)).1
    rw [B_xor, show B 0 = 0#32 by decide, BitVec.xor_zero]
theorem entry_loop (c : Int) (h : In32 c) : ∀ (d n : Nat), n + d = 8 → Ev (fun k => creelref02_entry.l0 k (crcBits n c) n) (crcBits 8 c) := by
  intro d
  induction d with
  | zero =>
    intro n hn
    obtain rfl : n = 8 := by omega
    exact some_ev fun k => by simp only [creelref02_entry.l0]; rw [if_neg (by omega)]
  | succ d ih =>
    intro n hn
    have hb := entry_bit (bits_in h n)
    refine Ev.step (f := fun k => creelref02_entry.l0 k (crcBits (n + 1) c) ((n + 1 : Nat) : Int)) (fun k => ?_) (ih (n + 1) (by omega))
    simp only [creelref02_entry.l0]
    rw [if_pos (by omega), w64_in (by omega) (by omega)]
    show _ = creelref02_entry.l0 k (crcBit (crcBits n c)) _
    rw [← hb]
    split <;> rfl
theorem entry_ev (c : Int) (h : In32 c) : Ev (fun k => creelref02_entry.f k c) (crcBits 8 c) := by
  unfold creelref02_entry.f
  exact entry_loop c h 8 0 rfl
theorem ref_index {c x : Int} (hc : In32 c) (hx : 0 ≤ x ∧ x < 256) : Int.tmod (Go.bits .xor .u32 c (x % 4294967296)) 256 = Go.bits .xor .u8 (c % 256) x := by
  have hi := bits_u8 .xor (c % 256) x
  have h0 := xor_in c x
  rw [show x % 4294967296 = x by omega, Int.tmod_eq_emod_of_nonneg h0.1]
  apply (B_inj (by unfold In32; omega) (by unfold In32; omega)).1
  rw [B_index hc hx, ← B_xor]
  apply BitVec.eq_of_toNat_eq
  rw [B_toNat (by unfold In32; omega), BitVec.toNat_and, B_toNat h0]
  show _ = (Go.bits .xor .u32 c x).toNat &&& (2 ^ 8 - 1)
  rw [Nat.and_two_pow_sub_one_eq_mod]
  have := h0.1
  omega
theorem ref_Add_loop (l : List Int) (hl : l.length ≤ 140737488355328) (hb : Bs l) : ∀ (rest : List Int) (i : Nat) (c : Int), l.drop i = rest → i ≤ l.length → In32 c →
    Ev (fun k => creelref02_Add.l0 k l c i) (Go.bits .xor .u32 4294967295 (crcFold c rest)) := by
  intro rest
  induction rest with
  | nil =>
    intro i c hd hi hc
    have he := drop_len hi hd
    exact some_ev fun k => by simp only [creelref02_Add.l0]; rw [if_neg (by omega)]; rfl
  | cons x r ih =>
    intro i c hd hi hc
    have hlt : i < l.length := by
      rcases Nat.lt_or_ge i l.length with h | h
      · exact h
      · rw [List.drop_eq_nil_of_le h] at hd; simp at hd
    have hcr := rd_drop hlt
    have hbc := rd_bs hb hlt
    rw [hd] at hcr
    obtain ⟨hx, hr⟩ := List.cons.inj hcr
    rw [← hx] at hbc
    have hin := bits_u8 .xor (c % 256) x
    have hw1 : wrap64 ((i : Int) + 1) = ((i + 1 : Nat) : Int) := by rw [w64_in (by omega) (by omega)]; omega
    have h0 := hc.1
    have hnx : Go.bits .xor .u32 (crcBits 8 (Go.bits .xor .u8 (c % 256) x)) (Int.tdiv c 256 % 4294967296) = crcNext c x := by
      unfold crcNext
      rw [Int.tdiv_eq_ediv_of_nonneg h0, show c / 256 % 4294967296 = c / 256 by have := hc.2; omega]
    refine Ev.step (f := fun k => (creelref02_entry.f k (Go.bits .xor .u8 (c % 256) x)).bind fun t138 => creelref02_Add.l0 k l (Go.bits .xor .u32 t138 (Int.tdiv c 256 % 4294967296)) ((i + 1 : Nat) : Int)) (fun k => ?_) (Ev.bind (entry_ev _ (by unfold In32; omega)) ?_)
    · simp only [creelref02_Add.l0]
      rw [if_pos (by omega), if_pos (by omega), ← hx, ref_index hc hbc, hw1]
    · rw [hnx]
      exact ih (i + 1) (crcNext c x) hr.symm (by omega) (xor_in _ _)
theorem ref_Sum_ev (l : List Int) (hl : l.length ≤ 140737488355328) (hb : Bs l) : Ev (fun k => creelref02_Sum.f k l) (addS 0 l) := by
  unfold creelref02_Sum.f
  refine Ev.bind (r := addS 0 l) ?_ (all_ev fun k => rfl)
  unfold creelref02_Add.f
  exact Ev.eq (ref_Add_loop l hl hb l 0 _ rfl (by omega) (xor_in _ _)) rfl

/-! ### Seal -/
def le4 (n : Int) : List Int := [n % 256, n / 256 % 256, n / 65536 % 256, n / 16777216 % 256]
/-- Bytes, and their sum behind them. -/
def sealS (l : List Int) : List Int := l ++ le4 (addS 0 l)
theorem le4_len (n : Int) : (le4 n).length = 4 := rfl
theorem le4_bs (n : Int) : Bs (le4 n) := Bs.cons (by omega) (by omega) (Bs.cons (by omega) (by omega) (Bs.cons (by omega) (by omega) (Bs.cons (by omega) (by omega) Bs.nil)))
theorem sealS_len (l : List Int) : (sealS l).length = l.length + 4 := by unfold sealS; rw [List.length_append, le4_len]
theorem sealS_bs {l : List Int} (h : Bs l) : Bs (sealS l) := h.append (le4_bs _)
theorem Seal_eq {l : List Int} (h : l.length ≤ 140737488350000) : frame_Seal.f l = some (sealS l) := by
  unfold frame_Seal.f
  rw [if_pos (by omega), Sum_eq]; rfl
theorem ref_Seal_ev (l : List Int) (hl : l.length ≤ 140737488350000) (hb : Bs l) : Ev (fun k => creelref03_Seal.f k l) (sealS l) := by
  have hin := add_in 0 l
  have h0 := hin.1
  have h1 := hin.2
  unfold creelref03_Seal.f
  refine Ev.bind (ref_Sum_ev l (by omega) hb) (all_ev fun k => ?_)
  simp only [Option.bind_some, List.nil_append, List.length_nil]
  rw [if_pos (by omega), if_pos (by simp; omega)]
  rw [Int.tmod_eq_emod_of_nonneg h0, Int.tdiv_eq_ediv_of_nonneg h0, Int.tdiv_eq_ediv_of_nonneg h0, Int.tdiv_eq_ediv_of_nonneg h0]
  rw [show addS 0 l / 256 % 4294967296 = addS 0 l / 256 by omega, show addS 0 l / 65536 % 4294967296 = addS 0 l / 65536 by omega, show addS 0 l / 16777216 % 4294967296 = addS 0 l / 16777216 by omega, show addS 0 l % 256 % 256 = addS 0 l % 256 by omega]
  rfl

/-! ### Put -/
def frameS (x : List Int) : List Int := sealS (fixN 4 x.length ++ x)
def putF (b x : List Int) : List Int × Int := if 4096 < x.length then ([], 3) else (b ++ frameS x, 0)
theorem frameS_len (x : List Int) : (frameS x).length = x.length + 8 := by unfold frameS; rw [sealS_len, List.length_append, fixN_len]; omega
theorem frameS_bs {x : List Int} (h : Bs x) : Bs (frameS x) := sealS_bs ((fixN_bs _ _).append h)
theorem Concat2 {a b : List Int} (h : a.length + b.length < 140737488355000) : slices_Concat_byte_byte.f [a, b] = some (a ++ b) := by
  unfold slices_Concat_byte_byte.f catLen
  rw [if_pos ⟨by simp; omega, by simp⟩]; simp
theorem Put_ev (b x : List Int) (hb : b.length ≤ 140737488300000) : Ev (fun k => frame_Put.f k b x) (putF b x) := by
  unfold frame_Put.f putF
  by_cases h : 4096 < x.length
  · exact all_ev fun k => by rw [if_pos (by omega), if_pos h]
  · refine Ev.congr (f := fun k => (vary_Fix.f k [] (x.length : Int) ((4 : Nat) : Int)).bind fun t114 => ((slices_Concat_byte_byte.f (([t114, x] : List (List Int)))).bind fun t120 => ((frame_Seal.f t120).bind fun t123 => ((slices_Concat_byte_byte.f (([b, t123] : List (List Int)))).bind fun t129 => (some (t129, 0)))))) (fun k => by rw [if_neg (by omega), u64_in (by omega) (by omega)]; rfl) ?_
    refine Ev.bind (vary_Fix_ev [] x.length 4 (by omega) (by omega) (by omega) (by simp)) (all_ev fun k => ?_)
    have hf := fixN_len 4 x.length
    have hl : (frameS x).length = x.length + 8 := frameS_len x
    rw [if_neg h, List.nil_append, Concat2 (by omega), Option.bind_some, Seal_eq (by rw [List.length_append]; omega), Option.bind_some]
    show ((slices_Concat_byte_byte.f [b, frameS x]).bind fun t129 => some (t129, 0)) = _
    rw [Concat2 (by omega)]; rfl
theorem ref_Put_ev (b x : List Int) (hb : b.length ≤ 140737488300000) (hx : Bs x) : Ev (fun k => creelref03_Put.f k b x) (putF b x) := by
  unfold creelref03_Put.f putF
  by_cases h : 4096 < x.length
  · exact all_ev fun k => by rw [if_pos (by omega), if_pos h]
  · have hf := fixN_len 4 x.length
    have hl : (frameS x).length = x.length + 8 := frameS_len x
    refine Ev.congr (f := fun k => (creelref01_Fix.f k [] (x.length : Int) ((4 : Nat) : Int)).bind fun t162 => (if t162.length + x.length < 140737488355328 then ((creelref03_Seal.f k (t162 ++ x)).bind fun t168 => ((some (([] : List Int) : List Int)).bind fun y171 => (if y171.length + b.length < 140737488355328 then ((some (y171 ++ b : List Int)).bind fun y174 => (if y174.length + t168.length < 140737488355328 then (some ((y174 ++ t168), 0)) else (none))) else (none)))) else (none))) (fun k => by rw [if_neg (by omega), u64_in (by omega) (by omega)]; rfl) ?_
    refine Ev.bind (ref_Fix_ev [] x.length 4 (by omega) (by omega) (by omega) (by simp)) ?_
    rw [List.nil_append]
    refine Ev.congr (f := fun k => ((creelref03_Seal.f k (fixN 4 x.length ++ x)).bind fun t168 => ((some (([] : List Int) : List Int)).bind fun y171 => (if y171.length + b.length < 140737488355328 then ((some (y171 ++ b : List Int)).bind fun y174 => (if y174.length + t168.length < 140737488355328 then (some ((y174 ++ t168), 0)) else (none))) else (none))))) (fun k => by rw [if_pos (by omega)]) ?_
    refine Ev.bind (ref_Seal_ev (fixN 4 x.length ++ x) (by rw [List.length_append]; omega) ((fixN_bs _ _).append hx)) (all_ev fun k => ?_)
    show ((some (([] : List Int) : List Int)).bind fun y171 => (if y171.length + b.length < 140737488355328 then ((some (y171 ++ b : List Int)).bind fun y174 => (if y174.length + (frameS x).length < 140737488355328 then (some ((y174 ++ frameS x), 0)) else (none))) else (none))) = _
    simp only [Option.bind_some, List.nil_append, List.length_nil]
    rw [if_pos (by omega), if_pos (by omega), if_neg h]

/-! ### What is told apart -/
theorem Equal_loop (a b : List Int) (hl : a.length ≤ 140737488355328) (he : a.length = b.length) : ∀ (d i : Nat), i + d = a.length →
    Ev (fun k => slices_Equal_byte_byte.l0 k a b a.length i) (decide (a.drop i = b.drop i)) := by
  intro d
  induction d with
  | zero =>
    intro i hi
    refine some_ev fun k => ?_
    simp only [slices_Equal_byte_byte.l0]
    rw [if_neg (by omega), List.drop_eq_nil_of_le (by omega), List.drop_eq_nil_of_le (by omega)]; rfl
  | succ d ih =>
    intro i hi
    have h1 := rd_drop (show i < a.length by omega)
    have h2 := rd_drop (show i < b.length by omega)
    by_cases hc : rd a i = rd b i
    · refine Ev.step (f := fun k => slices_Equal_byte_byte.l0 k a b a.length ((i + 1 : Nat) : Int)) (fun k => ?_) (Ev.eq (ih (i + 1) (by omega)) ?_)
      · simp only [slices_Equal_byte_byte.l0]
        rw [if_pos (by omega), if_pos (by omega), if_pos (by omega), if_pos (by omega), if_pos hc, w64_in (by omega) (by omega)]; rfl
      · rw [h1, h2, hc]; simp
    · refine some_ev fun k => ?_
      simp only [slices_Equal_byte_byte.l0]
      rw [if_pos (by omega), if_pos (by omega), if_pos (by omega), if_pos (by omega), if_neg hc, h1, h2]
      simp [hc]
theorem Equal_ev (a b : List Int) (hl : a.length ≤ 140737488355328) : Ev (fun k => slices_Equal_byte_byte.f k a b) (decide (a = b)) := by
  unfold slices_Equal_byte_byte.f
  by_cases he : a.length = b.length
  · refine Ev.congr (f := fun k => slices_Equal_byte_byte.l0 k a b a.length ((0 : Nat) : Int)) (fun k => by rw [if_pos (by omega)]; rfl) ?_
    exact Equal_loop a b hl he a.length 0 (by omega)
  · refine all_ev fun k => ?_
    rw [if_neg (by omega), decide_eq_false (fun h => he (by rw [h]))]
theorem sealed_ev (l : List Int) (h4 : 4 ≤ l.length) (hl : l.length ≤ 140737488350000) : Ev (fun k => frame_sealed.f k l) (decide (sealS (l.take (l.length - 4)) = l)) := by
  have hw : wrap64 ((l.length : Int) - 4) = ((l.length - 4 : Nat) : Int) := by rw [w64_in (by omega) (by omega)]; omega
  have hs : (sealS (l.take (l.length - 4))).length = l.length := by rw [sealS_len, List.length_take]; omega
  unfold frame_sealed.f
  refine Ev.congr (f := fun k => (slices_Equal_byte_byte.f k (sealS (l.take (l.length - 4))) l).bind fun t186 => some t186) (fun k => ?_) (Ev.bind (Equal_ev _ l (by omega)) (all_ev fun k => rfl))
  rw [hw, if_pos (by omega), if_pos (by omega), Int.toNat_natCast, Seal_eq (by rw [List.length_take]; omega)]; rfl

/-! ### Take -/
def spanF (b : List Int) : Int × Int :=
  if b.length < 4 then (0, 5) else if 4096 < uval 0 (b.take 4) then (0, 6) else if b.length < uval 0 (b.take 4) + 8 then (0, 5) else (((uval 0 (b.take 4) + 4 : Nat) : Int), 0)
def takeF (b : List Int) : List Int × Int × Int :=
  if b.length < 4 then ([], 0, 5) else if 4096 < uval 0 (b.take 4) then ([], 0, 6) else if b.length < uval 0 (b.take 4) + 8 then ([], 0, 5) else
    if sealS (b.take (uval 0 (b.take 4) + 4)) = b.take (uval 0 (b.take 4) + 8) then ((b.take (uval 0 (b.take 4) + 4)).drop 4, ((uval 0 (b.take 4) + 8 : Nat) : Int), 0) else ([], 0, 6)
theorem span_ev (b : List Int) (hl : b.length ≤ 140737488355000) (hb : Bs b) : Ev (fun k => frame_span.f k b) (spanF b) := by
  have hmn : (mn (b.length : Int) 4).toNat = min b.length 4 := by unfold mn; split <;> omega
  have hm0 : 0 ≤ mn (b.length : Int) 4 ∧ mn (b.length : Int) 4 ≤ b.length := by unfold mn; split <;> omega
  unfold frame_span.f
  refine Ev.congr (f := fun k => (vary_Unfix.f k (b.take (min b.length 4)) 4).bind fun bt194 => (if bt194.2.2 = 0 then (if bt194.1 > 4096 then (some (0, 6)) else (if (b.length : Int) < (wrap64 (8 + (wrap64 (bt194.1)))) then (some (0, 5)) else (some (wrap64 (4 + (wrap64 (bt194.1))), 0)))) else (some (0, 5)))) (fun k => by rw [if_pos hm0.1, if_pos hm0.2, hmn]) ?_
  have htl : (b.take (min b.length 4)).length = min b.length 4 := by rw [List.length_take]; omega
  refine Ev.bind (vary_Unfix_ev (b.take (min b.length 4)) 4 (hb.take _) (by omega) (by omega)) (all_ev fun k => ?_)
  have hU : unfixS (b.take (min b.length 4)) 4 = if b.length < 4 then (0, [], 5) else ((uval 0 (b.take 4) : Int), (b.take (min b.length 4)).drop 4, 0) := by
    unfold unfixS
    rw [if_neg (by decide), htl]
    by_cases h4 : b.length < 4
    · rw [if_pos h4, if_pos (by omega)]
    · rw [if_neg h4, if_neg (by omega), show min b.length 4 = 4 by omega, show ((4 : Int)).toNat = 4 from rfl, List.take_take]; rfl
  rw [hU]
  unfold spanF
  by_cases h4 : b.length < 4
  · rw [if_pos h4, if_pos h4, if_neg (by decide)]
  · rw [if_neg h4, if_neg h4]
    have hu := uval_lt (b.take 4) (hb.take 4)
    rw [List.length_take, show min 4 b.length = 4 by omega] at hu
    generalize uval 0 (b.take 4) = n at *
    rw [if_pos (by trivial)]
    by_cases h1 : 4096 < n
    · rw [if_pos (by omega), if_pos h1]
    · rw [if_neg (by omega), if_neg h1, w64_in (n := (n : Int)) (by omega) (by omega), w64_in (n := 8 + (n : Int)) (by omega) (by omega), w64_in (n := 4 + (n : Int)) (by omega) (by omega)]
      by_cases h2 : b.length < n + 8
      · rw [if_pos (by omega), if_pos h2]
      · rw [if_neg (by omega), if_neg h2]
        congr 2
        omega
theorem take_ev (b : List Int) (hl : b.length ≤ 140737488350000) (hb : Bs b) : Ev (fun k => frame_take.f k b) (takeF b) := by
  unfold frame_take.f
  refine Ev.bind (span_ev b (by omega) hb) ?_
  unfold spanF takeF
  by_cases h4 : b.length < 4
  · exact all_ev fun k => by rw [if_pos h4, if_pos h4, if_neg (by decide)]
  · rw [if_neg h4, if_neg h4]
    generalize uval 0 (b.take 4) = n at *
    by_cases h1 : 4096 < n
    · exact all_ev fun k => by rw [if_pos h1, if_pos h1, if_neg (by decide)]
    · rw [if_neg h1, if_neg h1]
      by_cases h2 : b.length < n + 8
      · exact all_ev fun k => by rw [if_pos h2, if_pos h2, if_neg (by decide)]
      · rw [if_neg h2, if_neg h2]
        have hw : wrap64 (((n + 4 : Nat) : Int) + 4) = ((n + 8 : Nat) : Int) := by rw [w64_in (by omega) (by omega)]; omega
        have htl : (b.take (n + 8)).length = n + 8 := by rw [List.length_take]; omega
        have hse := sealed_ev (b.take (n + 8)) (by omega) (by omega)
        rw [htl, List.take_take, show min (n + 8 - 4) (n + 8) = n + 4 by omega] at hse
        refine Ev.congr (f := fun k => (frame_sealed.f k (b.take (n + 8))).bind fun t206 => (if t206 = true then (if 4 ≤ ((n + 4 : Nat) : Int) then (if ((n + 4 : Nat) : Int) ≤ (b.length : Int) then some ((b.take (((n + 4 : Nat) : Int)).toNat).drop 4, ((n + 8 : Nat) : Int), 0) else none) else none) else some (([] : List Int), 0, 6))) (fun k => ?_) (Ev.bind hse (all_ev fun k => ?_))
        · simp only [hw]
          rw [if_pos (by trivial), if_pos (by omega), if_pos (by omega)]
          rfl
        · by_cases hs : sealS (b.take (n + 4)) = b.take (n + 8)
          · rw [if_pos (decide_eq_true hs), if_pos hs, if_pos (by omega), if_pos (by omega)]; rfl
          · rw [if_neg (by simpa using hs), if_neg hs]

end Go.Proofs.Ytaiechbdcddalaa.Plain
