/- What the printed functions of layer 3 (frame, and its reference) compute, told by the plain laws. -/
import Derived.Test.YtaiechbdcddalaaSpecFix
import Derived.Test.YtaiechbdcddalaaSpecCrc
import Derived.Test.YtaiechbdcddalaaPrint2
import Derived.Test.YtaiechbdcddalaaPrint4
import Derived.Test.YtaiechbdcddalaaPrint3
import Derived.Test.YtaiechbdcddalaaPrint10
import Derived.Test.YtaiechbdcddalaaPrint11
set_option linter.unusedVariables false
set_option linter.unusedSimpArgs false
namespace Go.Proofs.Ytaiechbdcddalaa.Plain
open Go.RowKit Go.Proofs.YtaiechbdcddalaaW.PrintWords Go.Proofs.YtaiechbdcddalaaW.PrintLast Go.Proofs.YtaiechbdcddalaaW.PrintMore Go.Proofs.Ytaiechbdcddalaa.Print

/-! ### The reference's sum -/
/-! ### Seal -/
def le4 (n : Int) : List Int := [n % 256, n / 256 % 256, n / 65536 % 256, n / 16777216 % 256]
/-- Bytes, and their sum behind them. -/
def sealS (l : List Int) : List Int := l ++ le4 (addS 0 l)
theorem le4_len (n : Int) : (le4 n).length = 4 := rfl
theorem le4_bs (n : Int) : Bs (le4 n) := Bs.cons (by omega) (by omega) (Bs.cons (by omega) (by omega) (Bs.cons (by omega) (by omega) (Bs.cons (by omega) (by omega) Bs.nil)))
theorem sealS_len (l : List Int) : (sealS l).length = l.length + 4 := by unfold sealS; rw [List.length_append, le4_len]
theorem sealS_bs {l : List Int} (h : Bs l) : Bs (sealS l) := h.append (le4_bs _)
theorem Seal_eq {l : List Int} (h : l.length ≤ 140737488350000) : frame_Seal.f l = some (sealS l) := by
  unfold frame_Seal.f
  rw [if_pos (by omega), Sum_eq]; rfl
/-! ### Put -/
def frameS (x : List Int) : List Int := sealS (fixN 4 x.length ++ x)
def putF (b x : List Int) : List Int × Int := if 4096 < x.length then ([], 3) else (b ++ frameS x, 0)
theorem frameS_len (x : List Int) : (frameS x).length = x.length + 8 := by unfold frameS; rw [sealS_len, List.length_append, fixN_len]; omega
theorem frameS_bs {x : List Int} (h : Bs x) : Bs (frameS x) := sealS_bs ((fixN_bs _ _).append h)
theorem Concat2 {a b : List Int} (h : a.length + b.length < 140737488355000) : slices_Concat_byte_byte.f [a, b] = some (a ++ b) := by
  unfold slices_Concat_byte_byte.f catLen
  rw [if_pos ⟨by simp; omega, by simp⟩]; simp
theorem Put_ev (b x : List Int) (hb : b.length ≤ 140737488300000) : Ev (fun k => frame_Put.f k b x) (putF b x) := by
  unfold frame_Put.f putF
  by_cases h : 4096 < x.length
  · exact all_ev fun k => by rw [if_pos (by omega), if_pos h]
  · refine Ev.congr (f := fun k => (vary_Fix.f k [] (x.length : Int) ((4 : Nat) : Int)).bind fun t114 => ((slices_Concat_byte_byte.f (([t114, x] : List (List Int)))).bind fun t120 => ((frame_Seal.f t120).bind fun t123 => ((slices_Concat_byte_byte.f (([b, t123] : List (List Int)))).bind fun t129 => (some (t129, 0)))))) (fun k => by rw [if_neg (by omega), u64_in (by omega) (by omega)]; rfl) ?_
    refine Ev.bind (vary_Fix_ev [] x.length 4 (by omega) (by omega) (by omega) (by simp)) (all_ev fun k => ?_)
    have hf := fixN_len 4 x.length
    have hl : (frameS x).length = x.length + 8 := frameS_len x
    rw [if_neg h, List.nil_append, Concat2 (by omega), Option.bind_some, Seal_eq (by rw [List.length_append]; omega), Option.bind_some]
    show ((slices_Concat_byte_byte.f [b, frameS x]).bind fun t129 => some (t129, 0)) = _
    rw [Concat2 (by omega)]; rfl
/-! ### What is told apart -/
theorem Equal_loop (a b : List Int) (hl : a.length ≤ 140737488355328) (he : a.length = b.length) : ∀ (d i : Nat), i + d = a.length →
    Ev (fun k => slices_Equal_byte_byte.l0 k a b a.length i) (decide (a.drop i = b.drop i)) := by
  intro d
  induction d with
  | zero =>
    intro i hi
    refine some_ev fun k => ?_
    simp only [slices_Equal_byte_byte.l0]
    rw [if_neg (by omega), List.drop_eq_nil_of_le (by omega), List.drop_eq_nil_of_le (by omega)]; rfl
  | succ d ih =>
    intro i hi
    have h1 := rd_drop (show i < a.length by omega)
    have h2 := rd_drop (show i < b.length by omega)
    by_cases hc : rd a i = rd b i
    · refine Ev.step (f := fun k => slices_Equal_byte_byte.l0 k a b a.length ((i + 1 : Nat) : Int)) (fun k => ?_) (Ev.eq (ih (i + 1) (by omega)) ?_)
      · simp only [slices_Equal_byte_byte.l0]
        rw [if_pos (by omega), if_pos (by omega), if_pos (by omega), if_pos (by omega), if_pos hc, w64_in (by omega) (by omega)]; rfl
      · rw [h1, h2, hc]; simp
    · refine some_ev fun k => ?_
      simp only [slices_Equal_byte_byte.l0]
      rw [if_pos (by omega), if_pos (by omega), if_pos (by omega), if_pos (by omega), if_neg hc, h1, h2]
      simp [hc]
theorem Equal_ev (a b : List Int) (hl : a.length ≤ 140737488355328) : Ev (fun k => slices_Equal_byte_byte.f k a b) (decide (a = b)) := by
  unfold slices_Equal_byte_byte.f
  by_cases he : a.length = b.length
  · refine Ev.congr (f := fun k => slices_Equal_byte_byte.l0 k a b a.length ((0 : Nat) : Int)) (fun k => by rw [if_pos (by omega)]; rfl) ?_
    exact Equal_loop a b hl he a.length 0 (by omega)
  · refine all_ev fun k => ?_
    rw [if_neg (by omega), decide_eq_false (fun h => he (by rw [h]))]
theorem sealed_ev (l : List Int) (h4 : 4 ≤ l.length) (hl : l.length ≤ 140737488350000) : Ev (fun k => frame_sealed.f k l) (decide (sealS (l.take (l.length - 4)) = l)) := by
  have hw : wrap64 ((l.length : Int) - 4) = ((l.length - 4 : Nat) : Int) := by rw [w64_in (by omega) (by omega)]; omega
  have hs : (sealS (l.take (l.length - 4))).length = l.length := by rw [sealS_len, List.length_take]; omega
  unfold frame_sealed.f
  refine Ev.congr (f := fun k => (slices_Equal_byte_byte.f k (sealS (l.take (l.length - 4))) l).bind fun t186 => some t186) (fun k => ?_) (Ev.bind (Equal_ev _ l (by omega)) (all_ev fun k => rfl))
  rw [hw, if_pos (by omega), if_pos (by omega), Int.toNat_natCast, Seal_eq (by rw [List.length_take]; omega)]; rfl

/-! ### Take -/
def spanF (b : List Int) : Int × Int :=
  if b.length < 4 then (0, 5) else if 4096 < uval 0 (b.take 4) then (0, 6) else if b.length < uval 0 (b.take 4) + 8 then (0, 5) else (((uval 0 (b.take 4) + 4 : Nat) : Int), 0)
def takeF (b : List Int) : List Int × Int × Int :=
  if b.length < 4 then ([], 0, 5) else if 4096 < uval 0 (b.take 4) then ([], 0, 6) else if b.length < uval 0 (b.take 4) + 8 then ([], 0, 5) else
    if sealS (b.take (uval 0 (b.take 4) + 4)) = b.take (uval 0 (b.take 4) + 8) then ((b.take (uval 0 (b.take 4) + 4)).drop 4, ((uval 0 (b.take 4) + 8 : Nat) : Int), 0) else ([], 0, 6)
theorem span_ev (b : List Int) (hl : b.length ≤ 140737488355000) (hb : Bs b) : Ev (fun k => frame_span.f k b) (spanF b) := by
  have hmn : (mn (b.length : Int) 4).toNat = min b.length 4 := by unfold mn; split <;> omega
  have hm0 : 0 ≤ mn (b.length : Int) 4 ∧ mn (b.length : Int) 4 ≤ b.length := by unfold mn; split <;> omega
  unfold frame_span.f
  refine Ev.congr (f := fun k => (vary_Unfix.f k (b.take (min b.length 4)) 4).bind fun bt194 => (if bt194.2.2 = 0 then (if bt194.1 > 4096 then (some (0, 6)) else (if (b.length : Int) < (wrap64 (8 + (wrap64 (bt194.1)))) then (some (0, 5)) else (some (wrap64 (4 + (wrap64 (bt194.1))), 0)))) else (some (0, 5)))) (fun k => by rw [if_pos hm0.1, if_pos hm0.2, hmn]) ?_
  have htl : (b.take (min b.length 4)).length = min b.length 4 := by rw [List.length_take]; omega
  refine Ev.bind (vary_Unfix_ev (b.take (min b.length 4)) 4 (hb.take _) (by omega) (by omega)) (all_ev fun k => ?_)
  have hU : unfixS (b.take (min b.length 4)) 4 = if b.length < 4 then (0, [], 5) else ((uval 0 (b.take 4) : Int), (b.take (min b.length 4)).drop 4, 0) := by
    unfold unfixS
    rw [if_neg (by decide), htl]
    by_cases h4 : b.length < 4
    · rw [if_pos h4, if_pos (by omega)]
    · rw [if_neg h4, if_neg (by omega), show min b.length 4 = 4 by omega, show ((4 : Int)).toNat = 4 from rfl, List.take_take]; rfl
  rw [hU]
  unfold spanF
  by_cases h4 : b.length < 4
  · rw [if_pos h4, if_pos h4, if_neg (by decide)]
  · rw [if_neg h4, if_neg h4]
    have hu := uval_lt (b.take 4) (hb.take 4)
    rw [List.length_take, show min 4 b.length = 4 by omega] at hu
    generalize uval 0 (b.take 4) = n at *
    rw [if_pos (by trivial)]
    by_cases h1 : 4096 < n
    · rw [if_pos (by omega), if_pos h1]
    · rw [if_neg (by omega), if_neg h1, w64_in (n := (n : Int)) (by omega) (by omega), w64_in (n := 8 + (n : Int)) (by omega) (by omega), w64_in (n := 4 + (n : Int)) (by omega) (by omega)]
      by_cases h2 : b.length < n + 8
      · rw [if_pos (by omega), if_pos h2]
      · rw [if_neg (by omega), if_neg h2]
        congr 2
        omega
theorem take_ev (b : List Int) (hl : b.length ≤ 140737488350000) (hb : Bs b) : Ev (fun k => frame_take.f k b) (takeF b) := by
  unfold frame_take.f
  refine Ev.bind (span_ev b (by omega) hb) ?_
  unfold spanF takeF
  by_cases h4 : b.length < 4
  · exact all_ev fun k => by rw [if_pos h4, if_pos h4, if_neg (by decide)]
  · rw [if_neg h4, if_neg h4]
    generalize uval 0 (b.take 4) = n at *
    by_cases h1 : 4096 < n
    · exact all_ev fun k => by rw [if_pos h1, if_pos h1, if_neg (by decide)]
    · rw [if_neg h1, if_neg h1]
      by_cases h2 : b.length < n + 8
      · exact all_ev fun k => by rw [if_pos h2, if_pos h2, if_neg (by decide)]
      · rw [if_neg h2, if_neg h2]
        have hw : wrap64 (((n + 4 : Nat) : Int) + 4) = ((n + 8 : Nat) : Int) := by rw [w64_in (by omega) (by omega)]; omega
        have htl : (b.take (n + 8)).length = n + 8 := by rw [List.length_take]; omega
        have hse := sealed_ev (b.take (n + 8)) (by omega) (by omega)
        rw [htl, List.take_take, show min (n + 8 - 4) (n + 8) = n + 4 by omega] at hse
        refine Ev.congr (f := fun k => (frame_sealed.f k (b.take (n + 8))).bind fun t206 => (if t206 = true then (if 4 ≤ ((n + 4 : Nat) : Int) then (if ((n + 4 : Nat) : Int) ≤ (b.length : Int) then some ((b.take (((n + 4 : Nat) : Int)).toNat).drop 4, ((n + 8 : Nat) : Int), 0) else none) else none) else some (([] : List Int), 0, 6))) (fun k => ?_) (Ev.bind hse (all_ev fun k => ?_))
        · simp only [hw]
          rw [if_pos (by trivial), if_pos (by omega), if_pos (by omega)]
          rfl
        · by_cases hs : sealS (b.take (n + 4)) = b.take (n + 8)
          · rw [if_pos (decide_eq_true hs), if_pos hs, if_pos (by omega), if_pos (by omega)]; rfl
          · rw [if_neg (by simpa using hs), if_neg hs]

end Go.Proofs.Ytaiechbdcddalaa.Plain
