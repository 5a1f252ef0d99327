/- Bits that are turned within 32 side by side: the bytes have another sum. And what is taken, unsealed. -/
import Derived.Test.YtdaieafampimhaaSpecFrameAll
import Derived.Test.YtdaieafampimhaaPrint10
set_option linter.unusedVariables false
set_option linter.unusedSimpArgs false
namespace Go.Proofs.Ytdaieafampimhaa.Plain
open Go.RowKit Go.Proofs.YtdaieafampimhaaW.PrintWords Go.Proofs.YtdaieafampimhaaW.PrintLast Go.Proofs.YtdaieafampimhaaW.PrintMore Go.Proofs.Ytdaieafampimhaa.Print

theorem idiv8 (n : Nat) (h : n < 10000000) : wrap64 (Int.tdiv (n : Int) 8) = ((n / 8 : Nat) : Int) := by
  rw [Int.tdiv_eq_ediv_of_nonneg (Int.natCast_nonneg n), show (n : Int) / 8 = ((n / 8 : Nat) : Int) by omega]
  exact w64_in (by omega) (by omega)
theorem imod8 (n : Nat) : Int.tmod (n : Int) 8 = ((n % 8 : Nat) : Int) := by
  rw [Int.tmod_eq_emod_of_nonneg (Int.natCast_nonneg n)]; omega
theorem sum_turned {p q : List Int} (hp : Bs p) (hq : Bs q) (m : Nat) (v : B32) (hv : v ≠ 0#32) (he : foldB ones (q.map B) = foldB ones (p.map B) ^^^ stepN m v) : addS 0 q ≠ addS 0 p := by
  intro h
  rw [← B_inj (add_in _ _) (add_in _ _), B_sum hq, B_sum hp, he] at h
  have hc : ∀ a x : B32, a ^^^ (a ^^^ x) = x := fun a x => by rw [← BitVec.xor_assoc, BitVec.xor_self, BitVec.zero_xor]
  have h3 : ∀ a b v : B32, a ^^^ (b ^^^ v) = a ^^^ b → v = 0#32 := fun a b v hh => by
    have h4 : b ^^^ v = b := by rw [← hc a (b ^^^ v), hh, hc]
    rw [← hc b v, h4, BitVec.xor_self]
  exact hv (stepN_ker m _ (h3 ones (foldB ones (p.map B)) _ h))
theorem turn_loop (p : List Int) (hp : Bs p) (hl : p.length ≤ 100000) (f : Nat) (hf : f < 8 * p.length) (turns : Int) (tb : Nat → Bool) (htb : (fun i : Nat => decide (Go.bits .and .u32 (shr .u32 turns (i : Int)) 1 = 1)) = tb) : ∀ (d j : Nat) (cur : List Int) (t : Bool), j + d = 32 →
    Bs cur → cur.length = p.length → cur.take (f / 8) = p.take (f / 8) → foldB ones (cur.map B) = foldB ones (p.map B) ^^^ stepN (8 * p.length - f) (pat tb (8 * p.length - f) j) →
    ((t = false ∧ cur = p ∧ pat tb (8 * p.length - f) j = 0#32) ∨ (t = true ∧ pat tb (8 * p.length - f) j ≠ 0#32)) →
    ∃ t' q, Ev (fun k => creellaw03_turn.l0 k cur f turns t j) (t', q) ∧ q.length = p.length ∧ Bs q ∧ q.take (f / 8) = p.take (f / 8) ∧ ((t' = false ∧ q = p) ∨ (t' = true ∧ addS 0 q ≠ addS 0 p)) := by
  intro d
  induction d with
  | zero =>
    intro j cur t hj hb hlen htk he ht
    refine ⟨t, cur, some_ev fun k => ?_, hlen, hb, htk, ?_⟩
    · simp only [creellaw03_turn.l0]
      rw [if_neg (by omega)]
    · rcases ht with ⟨h1, h2, _⟩ | ⟨h1, h2⟩
      · exact .inl ⟨h1, h2⟩
      · exact .inr ⟨h1, sum_turned hp hb _ _ h2 he⟩
  | succ d ih =>
    intro j cur t hj hb hlen htk he ht
    have hw1 : wrap64 ((j : Int) + 1) = ((j + 1 : Nat) : Int) := by rw [w64_in (by omega) (by omega)]; omega
    have hk : wrap64 ((f : Int) + (j : Int)) = ((f + j : Nat) : Int) := by rw [w64_in (by omega) (by omega)]; omega
    have h8 : wrap64 (8 * (cur.length : Int)) = ((8 * p.length : Nat) : Int) := by rw [w64_in (by omega) (by omega), hlen]; omega
    by_cases hbit : Go.bits .and .u32 (shr .u32 turns (j : Int)) 1 = 1
    · have htj : tb j = true := by rw [← htb]; exact decide_eq_true hbit
      by_cases hin : f + j < 8 * p.length
      · have hi : (f + j) / 8 < p.length := by clear hw1 hk h8 hbit he ih htb; omega
        have hpj : tb j = true ∧ j < 8 * p.length - f := ⟨htj, by clear hw1 hk h8 hbit he ih htb; omega⟩
        have hpat : pat tb (8 * p.length - f) (j + 1) = pat tb (8 * p.length - f) j ^^^ (1#32 <<< j) := by
          show (if _ then _ else _) = _
          rw [if_pos hpj]
        have hnext : foldB ones ((cur.set ((f + j) / 8) (Go.bits .xor .u8 (rd cur (((f + j) / 8 : Nat) : Int)) (shl .u8 1 (((f + j) % 8 : Nat) : Int)))).map B) = foldB ones (p.map B) ^^^ stepN (8 * p.length - f) (pat tb (8 * p.length - f) (j + 1)) := by
          rw [flip_fold ones cur hb ((f + j) / 8) ((f + j) % 8) (by clear hw1 hk h8 hbit he ih htb; omega) (by clear hw1 hk h8 hbit he ih htb; omega), he, hpat, stepN_xor, BitVec.xor_assoc, hlen, step_one (show j ≤ 8 * p.length - f by clear hw1 hk h8 hbit he ih htb hpat; omega) (by clear hw1 hk h8 hbit he ih htb hpat; omega)]
          congr 3
          clear hw1 hk h8 hbit he ih htb hpat
          omega
        obtain ⟨t', q, h1, h2⟩ := ih (j + 1) (cur.set ((f + j) / 8) (Go.bits .xor .u8 (rd cur (((f + j) / 8 : Nat) : Int)) (shl .u8 1 (((f + j) % 8 : Nat) : Int)))) true (by omega) (flip_bs hb _ _ _) (by rw [List.length_set, hlen]) (by
            rw [List.take_set_of_le (by clear hw1 hk h8 hbit he ih htb hpat hnext; omega)]; exact htk) hnext (.inr ⟨rfl, pat_ne tb _ j (by clear hw1 hk h8 hbit he ih htb hpat hnext; omega) hpj⟩)
        refine ⟨t', q, ?_, h2⟩
        refine Ev.step (f := fun k => creellaw03_turn.l0 k (cur.set ((f + j) / 8) (Go.bits .xor .u8 (rd cur (((f + j) / 8 : Nat) : Int)) (shl .u8 1 (((f + j) % 8 : Nat) : Int)))) f turns true ((j + 1 : Nat) : Int)) (fun k => ?_) h1
        have hdiv := idiv8 (f + j) (by clear hw1 hk h8 hbit he ih htb hpat hnext h1; omega)
        have hmod := imod8 (f + j)
        simp only [creellaw03_turn.l0, hk, h8, hdiv, hmod, hw1]
        clear hdiv hmod hw1 hk h8 he ih htb hpat hnext h1
        rw [if_pos (by omega), if_pos (by omega), if_pos hbit, if_pos (by omega), if_pos (by omega), if_pos (by omega), if_pos (by omega)]
        rfl
      · have hpat : pat tb (8 * p.length - f) (j + 1) = pat tb (8 * p.length - f) j := by
          show (if _ then _ else _) = _
          rw [if_neg (by clear hw1 hk h8 hbit he ih htb; omega)]
        obtain ⟨t', q, h1, h2⟩ := ih (j + 1) cur t (by omega) hb hlen htk (by rw [hpat]; exact he) (by rw [hpat]; exact ht)
        refine ⟨t', q, ?_, h2⟩
        refine Ev.step (f := fun k => creellaw03_turn.l0 k cur f turns t ((j + 1 : Nat) : Int)) (fun k => ?_) h1
        simp only [creellaw03_turn.l0, hk, h8, hw1]
        clear hw1 hk h8 he ih htb hpat h1
        rw [if_pos (by omega), if_pos (by omega), if_pos hbit, if_neg (by omega)]
    · have htj : ¬ tb j = true := by rw [← htb]; simpa using hbit
      have hpat : pat tb (8 * p.length - f) (j + 1) = pat tb (8 * p.length - f) j := by
        show (if _ then _ else _) = _
        rw [if_neg (fun h => htj h.1)]
      obtain ⟨t', q, h1, h2⟩ := ih (j + 1) cur t (by omega) hb hlen htk (by rw [hpat]; exact he) (by rw [hpat]; exact ht)
      refine ⟨t', q, ?_, h2⟩
      refine Ev.step (f := fun k => creellaw03_turn.l0 k cur f turns t ((j + 1 : Nat) : Int)) (fun k => ?_) h1
      simp only [creellaw03_turn.l0, hk, h8, hw1]
      clear hw1 hk h8 he ih htb hpat h1
      rw [if_pos (by omega), if_pos (by omega), if_neg hbit]
theorem turn_ev (p : List Int) (hp : Bs p) (hl : p.length ≤ 100000) (f : Nat) (hf : f < 8 * p.length) (turns : Int) :
    ∃ t' q, Ev (fun k => creellaw03_turn.f k p f turns) (t', q) ∧ q.length = p.length ∧ Bs q ∧ q.take (f / 8) = p.take (f / 8) ∧ ((t' = false ∧ q = p) ∨ (t' = true ∧ addS 0 q ≠ addS 0 p)) := by
  unfold creellaw03_turn.f
  exact turn_loop p hp hl f hf turns _ rfl 32 0 p false (by omega) hp rfl rfl (by show _ = foldB ones (p.map B) ^^^ stepN _ 0#32; rw [stepN_zero, BitVec.xor_zero]) (.inl ⟨rfl, rfl, rfl⟩)

/-! ### Take -/
def takeFT (b : List Int) : List Int × List Int × Int := if (takeF b).2.2 = 0 then ((takeF b).1, b.drop ((takeF b).1.length + 8), 0) else ([], [], (takeF b).2.2)
theorem Take_ev (b : List Int) (hl : b.length ≤ 140737488350000) (hb : Bs b) : Ev (fun k => frame_Take.f k b) (takeFT b) := by
  unfold frame_Take.f takeFT
  refine Ev.bind (take_ev b hl hb) (all_ev fun k => ?_)
  by_cases h : (takeF b).2.2 = 0
  · obtain ⟨h1, h2, h3, h4⟩ := takeF_inv hb h
    have hx := h1.2
    rw [if_pos h, if_pos h, clone_eq (by omega), Option.bind_some, h2, if_pos (by omega), if_pos (by omega), Int.toNat_natCast, clone_eq (by rw [List.length_drop]; omega)]; rfl
  · rw [if_neg h, if_neg h]
/-- Sealed bytes have one sum. -/
theorem sum_sealed {q : List Int} (hq : Bs q) (n : Nat) (h : sealS (q.take n) = q) : addS 0 q = 1214729159 := by
  have := sum_rest (hq.take n) _ rfl
  rw [show q.take n ++ [addS 0 (q.take n) % 256, addS 0 (q.take n) / 256 % 256, addS 0 (q.take n) / 65536 % 256, addS 0 (q.take n) / 16777216 % 256] = q from h] at this
  exact this
theorem sum_seal {x : List Int} (hx : Bs x) : addS 0 (sealS x) = 1214729159 := sum_rest hx _ rfl
/-- A frame of which bits were turned, behind its length, is none. -/
theorem takeF_turned {y q : List Int} (hy : Ok4 y) (hq : Bs q) (hl : q.length = y.length + 8) (h4 : q.take 4 = (frameS y).take 4) (hs : addS 0 q ≠ addS 0 (frameS y)) : takeF q = ([], 0, 6) := by
  have hu : uval 0 (q.take 4) = y.length := by
    rw [h4]
    have := head4 hy.2 []
    rwa [List.append_nil] at this
  have hx := hy.2
  unfold takeF
  rw [hu, if_neg (by omega), if_neg (by omega), if_neg (by omega)]
  have hne : ¬ sealS (q.take (y.length + 4)) = q.take (y.length + 8) := by
    intro h
    rw [List.take_of_length_le (show q.length ≤ y.length + 8 by omega)] at h
    refine hs ?_
    rw [sum_sealed hq _ h]
    exact (sum_seal ((fixN_bs 4 y.length).append hy.1)).symm
  rw [if_neg hne]

end Go.Proofs.Ytdaieafampimhaa.Plain
