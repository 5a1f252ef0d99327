/- Neighbours that follow each other, near their vertex, have a byte each, and one more: any vertex (from 2^20 on), how many (up to 100), from how far ahead of it on (up to 60). -/
import Derived.Test.YtgpacbklpmloaaaSpecGaps
import Derived.Test.YtgpacbklpmloaaaPrint6
set_option linter.unusedVariables false
set_option linter.unusedSimpArgs false
namespace Go.Proofs.Ytgpacbklpmloaaa.Pure
open Go.RowKit Go.Proofs.Ytgpacbklpmloaaa.Print Go.Proofs.YtgpacbklpmloaaaW.PrintWords Go.Proofs.YtgpacbklpmloaaaW.PrintLast Go.Proofs.YtgpacbklpmloaaaW.PrintMore Go.Proofs.Ytgpacbklpmloaaa.Plain

/-- A number with a bit set is no less than the bit. -/
theorem or_ge {a : Int} (h0 : 0 ≤ a) (h1 : a < 4294967296) : 1048576 ≤ Go.bits .or .u32 a 1048576 ∧ Go.bits .or .u32 a 1048576 < 4294967296 := by
  obtain ⟨n, rfl⟩ := Int.eq_ofNat_of_zero_le h0
  have e : Go.bits .or .u32 (n : Int) 1048576 = IntKind.u32.wrap ((BitVec.ofInt 32 (n : Int) ||| BitVec.ofInt 32 1048576).toNat : Int) := rfl
  rw [e, BitVec.toNat_or, BitVec.ofInt_natCast, BitVec.toNat_ofNat, show BitVec.ofInt 32 1048576 = BitVec.ofNat 32 1048576 from rfl, BitVec.toNat_ofNat]
  rw [Nat.mod_eq_of_lt (by omega), Nat.mod_eq_of_lt (by omega)]
  have h2 : n ||| 1048576 < 2 ^ 32 := Nat.or_lt_two_pow (by omega) (by omega)
  have h3 : 1048576 ≤ n ||| 1048576 := Nat.right_le_or
  have hw : IntKind.u32.wrap ((n ||| 1048576 : Nat) : Int) = ((n ||| 1048576 : Nat) : Int) := by
    simp only [IntKind.wrap, IntKind.bits, IntKind.signed]
    simp
    omega
  rw [hw]
  omega
/-- So many numbers, one behind the other, as 32 bits have them. -/
def nearL (w f : Int) (m : Nat) : List Int := (List.range m).map fun i : Nat => (w - f + (i : Int)) % 4294967296
theorem nearL_succ (w f : Int) (m : Nat) : nearL w f (m + 1) = nearL w f m ++ [(w - f + (m : Int)) % 4294967296] := by
  unfold nearL; rw [List.range_succ, List.map_append]; rfl
theorem nearL_len (w f : Int) (m : Nat) : (nearL w f m).length = m := by unfold nearL; simp
theorem nearL_us (w f : Int) (m : Nat) : Us (nearL w f m) := by
  intro x hx
  unfold nearL at hx
  obtain ⟨i, _, rfl⟩ := List.mem_map.1 hx
  omega
theorem nearL_rd (w f : Int) {m i : Nat} (h : i < m) : rd (nearL w f m) (i : Int) = (w - f + (i : Int)) % 4294967296 := by
  unfold nearL
  simp [rd, List.getD_eq_getElem?_getD, List.getElem?_map, List.getElem?_range h]
theorem near_put {w f : Int} {m : Nat} (hm : m < 128) (h0 : 0 ≤ w - f) (h1 : w - f + m ≤ 4294967296) (hf : 0 ≤ f) (hf1 : f ≤ 60) : ∃ p, gapsP w (nearL w f m) = (p, 0) ∧ p.length = m + 1 := by
  cases m with
  | zero =>
    refine ⟨putN 0, ?_, by rw [putN_small (by omega)]; rfl⟩
    show gapsP w [] = _
    rw [gapsP_nil]; rfl
  | succ m =>
    have e : nearL w f (m + 1) = (w - f) :: ((List.range m).map fun i : Nat => (w - f) + 1 + (i : Int)) := by
      unfold nearL
      rw [List.range_succ_eq_map, List.map_cons, List.map_map]
      congr 1
      · show (w - f + ((0 : Nat) : Int)) % 4294967296 = _
        omega
      · apply List.map_congr_left
        intro i hi
        have hi' := List.mem_range.1 hi
        show (w - f + ((i + 1 : Nat) : Int)) % 4294967296 = _
        omega
    obtain ⟨g1, g2⟩ := gapB_near m (w - f)
    have hz : zigZ (w - f - w) < 128 := by unfold zigZ; split <;> omega
    have hz0 := zig_nonneg (w - f - w)
    refine ⟨putN (m + 1) ++ (putN (zigZ (w - f - w)).toNat ++ List.replicate m 0), ?_, ?_⟩
    · rw [e]
      unfold gapsP
      rw [if_pos (show rises ((w - f) :: _) = true from g2)]
      simp only [bodyG, List.length_cons, List.length_map, List.length_range, g1]
    · rw [putN_small (by omega), putN_small (by omega)]
      simp
theorem near_loop (w f c : Int) (n : Nat) (hw0 : 1048576 ≤ w) (hw1 : w < 4294967296) (hc : f = Int.tmod c 61) (hf : 0 ≤ f) (hf1 : f ≤ 60) (hn : n ≤ 100) : ∀ (d i : Nat), i + d = n →
    Ev (fun k => creellaw17_GapsNear.l0 k c true w n (nearL w f i) n i) true := by
  intro d
  induction d with
  | zero =>
    intro i hi
    obtain rfl : i = n := by omega
    have hl := nearL_len w f i
    have hw : wrap64 ((i : Int) + 1) = ((i + 1 : Nat) : Int) := by rw [w64_in (by omega) (by omega)]; omega
    refine Ev.step (fun k => creellaw17_GapsNear.l0.eq_2 _ _ _ _ _ _ _ _) ?_
    refine ev_neg (by omega) ?_
    rcases Nat.eq_zero_or_pos i with h0 | h0
    · obtain ⟨p, hp, hpl⟩ := near_put (w := w) (f := f) (m := i) (by omega) (by omega) (by omega) hf hf1
      refine ev_neg (by omega) (ev_bind (Ev.eq (gaps_Put_ev w (by omega) _ (nearL_us w f i) (by omega)) hp) (ev_pos rfl (ev_pos rfl (ev_val ?_))))
      rw [beq_iff_eq, hw]
      show (p.length : Int) = _
      omega
    · have hw2 : wrap64 ((i : Int) - 1) = ((i - 1 : Nat) : Int) := by rw [w64_in (by omega) (by omega)]; omega
      have r1 := nearL_rd w f (show i - 1 < i by omega)
      have r0 := nearL_rd w f (show 0 < i by omega)
      refine ev_pos (by omega) ?_
      rw [hl, hw2]
      refine ev_pos (by omega) (ev_pos (by omega) (ev_pos (by omega) ?_))
      rw [r1, show (0 : Int) = ((0 : Nat) : Int) from rfl, r0]
      by_cases hlt : (w - f + ((i - 1 : Nat) : Int)) % 4294967296 < (w - f + ((0 : Nat) : Int)) % 4294967296
      · exact ev_pos hlt (ev_val rfl)
      · obtain ⟨p, hp, hpl⟩ := near_put (w := w) (f := f) (m := i) (by omega) (by omega) (by omega) hf hf1
        refine ev_neg hlt (ev_bind (Ev.eq (gaps_Put_ev w (by omega) _ (nearL_us w f i) (by omega)) hp) (ev_pos rfl (ev_pos rfl (ev_val ?_))))
        rw [beq_iff_eq, hw]
        show (p.length : Int) = _
        omega
  | succ d ih =>
    intro i hi
    have hl := nearL_len w f i
    have hw1 : wrap64 ((i : Int) + 1) = ((i + 1 : Nat) : Int) := by rw [w64_in (by omega) (by omega)]; omega
    refine Ev.step (fun k => creellaw17_GapsNear.l0.eq_2 _ _ _ _ _ _ _ _) ?_
    rw [hw1, ← hc, ← nearL_succ]
    exact ev_pos (by omega) (ev_pos (by omega) (ih (i + 1) (by omega)))

theorem GapsNear : creellaw17_GapsNear.Pure := by
  intro v m f hv hm hf
  have hv' := wf_u32 hv
  have hm' := wf_u8 hm
  have hf' := wf_u8 hf
  obtain ⟨w0, w1⟩ := or_ge hv'.1 hv'.2
  refine Ev.rounds ?_
  unfold creellaw17_GapsNear.f
  refine ev_bind shown17_ev ?_
  have e0 : Int.tmod m 101 = m % 101 := Int.tmod_eq_emod_of_nonneg hm'.1
  have e1 : Int.tmod f 61 = f % 61 := Int.tmod_eq_emod_of_nonneg hf'.1
  have h0 := Int.emod_nonneg m (show (101 : Int) ≠ 0 by decide)
  have h1 := Int.emod_lt_of_pos m (show (0 : Int) < 101 by decide)
  have g0 := Int.emod_nonneg f (show (61 : Int) ≠ 0 by decide)
  have g1 := Int.emod_lt_of_pos f (show (0 : Int) < 61 by decide)
  obtain ⟨n, hn⟩ := Int.eq_ofNat_of_zero_le h0
  rw [e0, hn, w64_in (n := (n : Int)) (by omega) (by omega)]
  exact near_loop _ (Int.tmod f 61) f n w0 w1 rfl (by omega) (by omega) (by omega) n 0 (by omega)

end Go.Proofs.Ytgpacbklpmloaaa.Pure
