/- The reference's sum (layer 2). -/
import Derived.Test.YtgkmaogehbjjoaaSpecFew02
import Derived.Test.YtgkmaogehbjjoaaPrint1
set_option linter.unusedVariables false
set_option linter.unusedSimpArgs false
namespace Go.Proofs.Ytgkmaogehbjjoaa.Plain
open Go.RowKit Go.Proofs.YtgkmaogehbjjoaaW.PrintWords Go.Proofs.YtgkmaogehbjjoaaW.PrintLast Go.Proofs.YtgkmaogehbjjoaaW.PrintMore Go.Proofs.Ytgkmaogehbjjoaa.Print

/-! ### The reference's sum -/
theorem entry_bit {c : Int} (h : In32 c) : (if Int.tmod c 2 = 1 then Go.bits .xor .u32 ((Int.tdiv c 2) % 4294967296) 2197175160 else (Int.tdiv c 2) % 4294967296) = crcBit c := by
  have h0 := h.1
  have h1 := h.2
  rw [Int.tmod_eq_emod_of_nonneg h0, Int.tdiv_eq_ediv_of_nonneg h0, show c / 2 % 4294967296 = c / 2 by omega]
  unfold crcBit
  rw [and_one32 h]
  by_cases hb : c % 2 = 1
  · rw [if_pos hb, hb, show Go.bits .and .u32 2197175160 (-1 % 4294967296) = 2197175160 by decide]
  · rw [if_neg hb, show c % 2 = 0 by omega, show Go.bits .and .u32 2197175160 (-0 % 4294967296) = 0 by decide]
    apply (B_inj (by unfold In32; omega) (xor_in _ _)).1
    rw [B_xor, show B 0 = 0#32 by decide, BitVec.xor_zero]
theorem entry_loop (c : Int) (h : In32 c) : ∀ (d n : Nat), n + d = 8 → Ev (fun k => creelref02_entry.l0 k (crcBits n c) n) (crcBits 8 c) := by
  intro d
  induction d with
  | zero =>
    intro n hn
    obtain rfl : n = 8 := by omega
    exact some_ev fun k => by simp only [creelref02_entry.l0]; rw [if_neg (by omega)]
  | succ d ih =>
    intro n hn
    have hb := entry_bit (bits_in h n)
    refine Ev.step (f := fun k => creelref02_entry.l0 k (crcBits (n + 1) c) ((n + 1 : Nat) : Int)) (fun k => ?_) (ih (n + 1) (by omega))
    simp only [creelref02_entry.l0]
    rw [if_pos (by omega), w64_in (by omega) (by omega)]
    show _ = creelref02_entry.l0 k (crcBit (crcBits n c)) _
    rw [← hb]
    split <;> rfl
theorem entry_ev (c : Int) (h : In32 c) : Ev (fun k => creelref02_entry.f k c) (crcBits 8 c) := by
  unfold creelref02_entry.f
  exact entry_loop c h 8 0 rfl
theorem ref_index {c x : Int} (hc : In32 c) (hx : 0 ≤ x ∧ x < 256) : Int.tmod (Go.bits .xor .u32 c (x % 4294967296)) 256 = Go.bits .xor .u8 (c % 256) x := by
  have hi := bits_u8 .xor (c % 256) x
  have h0 := xor_in c x
  rw [show x % 4294967296 = x by omega, Int.tmod_eq_emod_of_nonneg h0.1]
  apply (B_inj (by unfold In32; omega) (by unfold In32; omega)).1
  rw [B_index hc hx, ← B_xor]
  apply BitVec.eq_of_toNat_eq
  rw [B_toNat (by unfold In32; omega), BitVec.toNat_and, B_toNat h0]
  show _ = (Go.bits .xor .u32 c x).toNat &&& (2 ^ 8 - 1)
  rw [Nat.and_two_pow_sub_one_eq_mod]
  have := h0.1
  omega
theorem ref_Add_loop (l : List Int) (hl : l.length ≤ 140737488355328) (hb : Bs l) : ∀ (rest : List Int) (i : Nat) (c : Int), l.drop i = rest → i ≤ l.length → In32 c →
    Ev (fun k => creelref02_Add.l0 k l c i) (Go.bits .xor .u32 4294967295 (crcFold c rest)) := by
  intro rest
  induction rest with
  | nil =>
    intro i c hd hi hc
    have he := drop_len hi hd
    exact some_ev fun k => by simp only [creelref02_Add.l0]; rw [if_neg (by omega)]; rfl
  | cons x r ih =>
    intro i c hd hi hc
    have hlt : i < l.length := by
      rcases Nat.lt_or_ge i l.length with h | h
      · exact h
      · rw [List.drop_eq_nil_of_le h] at hd; simp at hd
    have hcr := rd_drop hlt
    have hbc := rd_bs hb hlt
    rw [hd] at hcr
    obtain ⟨hx, hr⟩ := List.cons.inj hcr
    rw [← hx] at hbc
    have hin := bits_u8 .xor (c % 256) x
    have hw1 : wrap64 ((i : Int) + 1) = ((i + 1 : Nat) : Int) := by rw [w64_in (by omega) (by omega)]; omega
    have h0 := hc.1
    have hnx : Go.bits .xor .u32 (crcBits 8 (Go.bits .xor .u8 (c % 256) x)) (Int.tdiv c 256 % 4294967296) = crcNext c x := by
      unfold crcNext
      rw [Int.tdiv_eq_ediv_of_nonneg h0, show c / 256 % 4294967296 = c / 256 by have := hc.2; omega]
    refine Ev.step (f := fun k => (creelref02_entry.f k (Go.bits .xor .u8 (c % 256) x)).bind fun t138 => creelref02_Add.l0 k l (Go.bits .xor .u32 t138 (Int.tdiv c 256 % 4294967296)) ((i + 1 : Nat) : Int)) (fun k => ?_) (Ev.bind (entry_ev _ (by unfold In32; omega)) ?_)
    · simp only [creelref02_Add.l0]
      rw [if_pos (by omega), if_pos (by omega), ← hx, ref_index hc hbc, hw1]
    · rw [hnx]
      exact ih (i + 1) (crcNext c x) hr.symm (by omega) (xor_in _ _)
theorem ref_Add_ev (s : Int) (l : List Int) (hl : l.length ≤ 140737488355328) (hb : Bs l) : Ev (fun k => creelref02_Add.f k s l) (addS s l) := by
  unfold creelref02_Add.f
  exact Ev.eq (ref_Add_loop l hl hb l 0 _ rfl (by omega) (xor_in _ _)) rfl
theorem ref_Sum_ev (l : List Int) (hl : l.length ≤ 140737488355328) (hb : Bs l) : Ev (fun k => creelref02_Sum.f k l) (addS 0 l) := by
  unfold creelref02_Sum.f
  refine Ev.bind (r := addS 0 l) ?_ (all_ev fun k => rfl)
  unfold creelref02_Add.f
  exact Ev.eq (ref_Add_loop l hl hb l 0 _ rfl (by omega) (xor_in _ _)) rfl


end Go.Proofs.Ytgkmaogehbjjoaa.Plain
