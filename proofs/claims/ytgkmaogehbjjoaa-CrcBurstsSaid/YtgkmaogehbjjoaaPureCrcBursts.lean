/- Bytes of which bits were turned, within 32 side by side, have another sum: for any bytes (the first 300), from any bit on, whichever of the next 32. -/
import Derived.Test.YtgkmaogehbjjoaaSpecFew02
import Derived.Test.YtgkmaogehbjjoaaPrint2
set_option linter.unusedVariables false
set_option linter.unusedSimpArgs false
namespace Go.Proofs.Ytgkmaogehbjjoaa.Pure
open Go.RowKit Go.Proofs.Ytgkmaogehbjjoaa.Print Go.Proofs.YtgkmaogehbjjoaaW.PrintWords Go.Proofs.YtgkmaogehbjjoaaW.PrintLast Go.Proofs.YtgkmaogehbjjoaaW.PrintMore Go.Proofs.Ytgkmaogehbjjoaa.Plain

theorem div8 (n : Nat) (h : n < 1000000) : wrap64 (Int.tdiv (n : Int) 8) = ((n / 8 : Nat) : Int) := by
  rw [Int.tdiv_eq_ediv_of_nonneg (Int.natCast_nonneg n), show (n : Int) / 8 = ((n / 8 : Nat) : Int) by omega]
  exact w64_in (by omega) (by omega)
theorem mod8 (n : Nat) : Int.tmod (n : Int) 8 = ((n % 8 : Nat) : Int) := by
  rw [Int.tmod_eq_emod_of_nonneg (Int.natCast_nonneg n)]; omega
theorem burst_loop (l0 x : List Int) (turns : Int) (hx : creellaw02_few.f l0 = some x) (hxb : Bs x) (hxl : x.length ≤ 300) (f : Nat) (hf : f < 8 * x.length) (ht : 0 ≤ turns ∧ turns < 4294967296) : ∀ (d j : Nat) (cur : List Int), j + d = 32 →
    Bs cur → cur.length = x.length →
    foldB ones (cur.map B) = foldB ones (x.map B) ^^^ stepN (8 * x.length - f) (pat (fun i => decide (Go.bits .and .u32 (shr .u32 turns (i : Int)) 1 = 1)) (8 * x.length - f) j) →
    Ev (fun k => creellaw02_CrcBursts.l0 k l0 turns true cur f (decide (pat (fun i => decide (Go.bits .and .u32 (shr .u32 turns (i : Int)) 1 = 1)) (8 * x.length - f) j ≠ 0#32)) j) true := by
  generalize htb : (fun i : Nat => decide (Go.bits .and .u32 (shr .u32 turns (i : Int)) 1 = 1)) = tb
  intro d
  induction d with
  | zero =>
    intro j cur hj hb hl he
    refine some_ev fun k => ?_
    simp only [creellaw02_CrcBursts.l0, Sum_eq, Option.bind_some, hx]
    rw [if_neg (by omega), if_pos (by trivial)]
    congr 1
    rw [beq_iff_eq]
    have h1 : (addS 0 cur = addS 0 x) ↔ pat tb (8 * x.length - f) j = 0#32 := by
      rw [← B_inj (add_in _ _) (add_in _ _), B_sum hb, B_sum hxb, he]
      constructor
      · intro h
        have hc : ∀ a x : B32, a ^^^ (a ^^^ x) = x := fun a x => by rw [← BitVec.xor_assoc, BitVec.xor_self, BitVec.zero_xor]
        refine stepN_ker (8 * x.length - f) _ ?_
        have h3 : ∀ a b v : B32, a ^^^ (b ^^^ v) = a ^^^ b → v = 0#32 := fun a b v hh => by
          have h4 : b ^^^ v = b := by rw [← hc a (b ^^^ v), hh, hc]
          rw [← hc b v, h4, BitVec.xor_self]
        exact h3 ones (foldB ones (x.map B)) _ h
      · intro h; rw [h, stepN_zero, BitVec.xor_zero]
    by_cases hp : pat tb (8 * x.length - f) j = 0#32
    · simp [hp, h1.2 hp]
    · have : ¬ addS 0 cur = addS 0 x := fun hh => hp (h1.1 hh)
      simp [hp, this]
  | succ d ih =>
    intro j cur hj hb hl he
    have hw1 : wrap64 ((j : Int) + 1) = ((j + 1 : Nat) : Int) := by rw [w64_in (by omega) (by omega)]; omega
    have hk : wrap64 ((f : Int) + (j : Int)) = ((f + j : Nat) : Int) := by rw [w64_in (by omega) (by omega)]; omega
    have h8 : wrap64 (8 * (cur.length : Int)) = ((8 * x.length : Nat) : Int) := by rw [w64_in (by omega) (by omega), hl]; omega
    by_cases hbit : Go.bits .and .u32 (shr .u32 turns (j : Int)) 1 = 1
    · have htj : tb j = true := by rw [← htb]; exact decide_eq_true hbit
      by_cases hin : f + j < 8 * x.length
      · have hi : (f + j) / 8 < x.length := by omega
        have hdiv : wrap64 (Int.tdiv ((f + j : Nat) : Int) 8) = (((f + j) / 8 : Nat) : Int) := div8 (f + j) (by omega)
        have hmod : Int.tmod ((f + j : Nat) : Int) 8 = (((f + j) % 8 : Nat) : Int) := mod8 (f + j)
        have hpj : tb j = true ∧ j < 8 * x.length - f := ⟨htj, by clear ih hdiv hmod hw1 hk h8 he hbit hb htb; omega⟩
        have hpat : pat tb (8 * x.length - f) (j + 1) = pat tb (8 * x.length - f) j ^^^ (1#32 <<< j) := by
          show (if _ then _ else _) = _
          rw [if_pos hpj]
        have hstep := ih (j + 1) (cur.set ((f + j) / 8) (Go.bits .xor .u8 (rd cur (((f + j) / 8 : Nat) : Int)) (shl .u8 1 (((f + j) % 8 : Nat) : Int)))) (by clear ih hdiv hmod hw1 hk h8 he hbit hb htb; omega) (flip_bs hb _ _ _) (by rw [List.length_set, hl]) (by
          rw [flip_fold ones cur hb ((f + j) / 8) ((f + j) % 8) (by clear ih hdiv hmod hw1 hk h8 he hbit hb htb; omega) (by clear ih hdiv hmod hw1 hk h8 he hbit hb htb; omega), he, hpat, stepN_xor, BitVec.xor_assoc, hl, step_one (show j ≤ 8 * x.length - f by clear ih hdiv hmod hw1 hk h8 he hbit hb htb; omega) (by clear ih hdiv hmod hw1 hk h8 he hbit hb htb; omega)]
          congr 3
          clear ih hdiv hmod hw1 hk h8 he hbit hb htb hpat
          omega)
        rw [decide_eq_true (pat_ne tb _ j (by clear ih hdiv hmod hw1 hk h8 he hbit hb htb; omega) hpj)] at hstep
        refine Ev.step (f := fun k => creellaw02_CrcBursts.l0 k l0 turns true (cur.set ((f + j) / 8) (Go.bits .xor .u8 (rd cur (((f + j) / 8 : Nat) : Int)) (shl .u8 1 (((f + j) % 8 : Nat) : Int)))) f true ((j + 1 : Nat) : Int)) (fun k => ?_) hstep
        simp only [creellaw02_CrcBursts.l0, hk, h8, hdiv, hmod, hw1]
        rw [if_pos (by clear ih hdiv hmod hw1 hk h8 he hbit hb htb; omega), if_pos (by clear ih hdiv hmod hw1 hk h8 he hbit hb htb; omega), if_pos hbit, if_pos (by clear ih hdiv hmod hw1 hk h8 he hbit hb htb; omega), if_pos (by clear ih hdiv hmod hw1 hk h8 he hbit hb htb; omega), if_pos (by clear ih hdiv hmod hw1 hk h8 he hbit hb htb; omega), if_pos (by clear ih hdiv hmod hw1 hk h8 he hbit hb htb; omega)]
        rfl
      · have hpat : pat tb (8 * x.length - f) (j + 1) = pat tb (8 * x.length - f) j := by
          show (if _ then _ else _) = _
          rw [if_neg (by clear ih hw1 hk h8 he hbit hb htb; omega)]
        have hstep := ih (j + 1) cur (by clear ih hw1 hk h8 he hbit hb htb; omega) hb hl (by rw [hpat]; exact he)
        rw [hpat] at hstep
        refine Ev.step (f := fun k => creellaw02_CrcBursts.l0 k l0 turns true cur f (decide (pat tb (8 * x.length - f) j ≠ 0#32)) ((j + 1 : Nat) : Int)) (fun k => ?_) hstep
        simp only [creellaw02_CrcBursts.l0, hk, h8, hw1]
        rw [if_pos (by clear ih hw1 hk h8 he hbit hb htb; omega), if_pos (by clear ih hw1 hk h8 he hbit hb htb; omega), if_pos hbit, if_neg (by clear ih hw1 hk h8 he hbit hb htb; omega)]
    · have htj : ¬ tb j = true := by rw [← htb]; simpa using hbit
      have hpat : pat tb (8 * x.length - f) (j + 1) = pat tb (8 * x.length - f) j := by
        show (if _ then _ else _) = _
        rw [if_neg (fun h => htj h.1)]
      have hstep := ih (j + 1) cur (by clear ih hw1 hk h8 he hbit hb htb; omega) hb hl (by rw [hpat]; exact he)
      rw [hpat] at hstep
      refine Ev.step (f := fun k => creellaw02_CrcBursts.l0 k l0 turns true cur f (decide (pat tb (8 * x.length - f) j ≠ 0#32)) ((j + 1 : Nat) : Int)) (fun k => ?_) hstep
      simp only [creellaw02_CrcBursts.l0, hk, h8, hw1]
      rw [if_pos (by clear ih hw1 hk h8 he hbit hb htb; omega), if_pos (by clear ih hw1 hk h8 he hbit hb htb; omega), if_neg hbit]

theorem CrcBursts : creellaw02_CrcBursts.Pure := by
  intro a at_ turns _ _ ha hat hturns
  obtain ⟨x, hx, hxb, hxl⟩ := few02 a (fun x hx => wf_u8 (ha x hx))
  obtain ⟨ha0, ha1⟩ := wf_u16 hat
  refine Ev.rounds ?_
  unfold creellaw02_CrcBursts.f
  simp only [crc_shown_eq, Option.bind_some, hx, List.nil_append, List.length_nil]
  refine Ev.congr (f := fun k => if (x.length : Int) = 0 then some true else if wrap64 (8 * (x.length : Int)) = 0 then none else creellaw02_CrcBursts.l0 k a turns true x (Int.tmod (wrap64 at_) (wrap64 (8 * (x.length : Int)))) false 0) (fun k => by rw [if_pos (by omega)]) ?_
  by_cases h0 : (x.length : Int) = 0
  · exact all_ev fun k => if_pos h0
  · have h8 : wrap64 (8 * (x.length : Int)) = ((8 * x.length : Nat) : Int) := by rw [w64_in (by omega) (by omega)]; omega
    have e1 := Int.emod_nonneg at_ (show ((8 * x.length : Nat) : Int) ≠ 0 by omega)
    have e2 := Int.emod_lt_of_pos at_ (show (0 : Int) < ((8 * x.length : Nat) : Int) by omega)
    obtain ⟨f, hf⟩ := Int.eq_ofNat_of_zero_le e1
    refine Ev.congr (f := fun k => creellaw02_CrcBursts.l0 k a turns true x f false 0) (fun k => ?_) ?_
    · rw [if_neg h0, h8, if_neg (by omega), w64_in (by omega) (by omega), Int.tmod_eq_emod_of_nonneg ha0, hf]
    · have := burst_loop a x turns hx hxb hxl f (by omega) (wf_u32 hturns) 32 0 x (by omega) hxb rfl (by
        show _ = foldB ones (x.map B) ^^^ stepN _ 0#32
        rw [stepN_zero, BitVec.xor_zero])
      exact this

end Go.Proofs.Ytgkmaogehbjjoaa.Pure
