/- What the printed functions of layer 2 (crc) compute, told on 32 bits. -/
import Derived.Test.YtnkjbgoibmbmoaaPrint1
import Derived.Test.YtnkjbgoibmbmoaaSpecTools
import Derived.Test.YtnkjbgoibmbmoaaMathCrc
set_option linter.unusedVariables false
set_option linter.unusedSimpArgs false
namespace Go.Proofs.Ytnkjbgoibmbmoaa.Plain
open Go.RowKit Go.Proofs.YtnkjbgoibmbmoaaW.PrintWords Go.Proofs.YtnkjbgoibmbmoaaW.PrintLast Go.Proofs.YtnkjbgoibmbmoaaW.PrintMore Go.Proofs.Ytnkjbgoibmbmoaa.Print

/-- A number as 32 bits. -/
def B (x : Int) : B32 := BitVec.ofInt 32 x
def In32 (x : Int) : Prop := 0 ≤ x ∧ x < 4294967296
theorem B_toNat {x : Int} (h : In32 x) : (B x).toNat = x.toNat := by
  obtain ⟨n, rfl⟩ := Int.eq_ofNat_of_zero_le h.1
  have := h.2
  unfold B
  rw [BitVec.ofInt_natCast, BitVec.toNat_ofNat]
  simp only [Int.toNat_natCast]; omega
theorem B_inj {x y : Int} (hx : In32 x) (hy : In32 y) : B x = B y ↔ x = y := by
  constructor
  · intro h
    have h1 := congrArg BitVec.toNat h
    rw [B_toNat hx, B_toNat hy] at h1
    have := hx.1
    have := hy.1
    omega
  · rintro rfl; rfl
theorem B_of_toNat (v : B32) : B (v.toNat : Int) = v := by
  apply BitVec.eq_of_toNat_eq
  rw [B_toNat ⟨by omega, by have := v.isLt; omega⟩]; rfl
theorem xor_u32 (x y : Int) : Go.bits .xor .u32 x y = ((B x ^^^ B y).toNat : Int) := by
  show IntKind.u32.wrap (((B x ^^^ B y).toNat : Nat) : Int) = _
  rw [Go.IntKind.wrap_u32]
  have := (B x ^^^ B y).isLt
  omega
theorem and_u32 (x y : Int) : Go.bits .and .u32 x y = ((B x &&& B y).toNat : Int) := by
  show IntKind.u32.wrap (((B x &&& B y).toNat : Nat) : Int) = _
  rw [Go.IntKind.wrap_u32]
  have := (B x &&& B y).isLt
  omega
theorem xor_in (x y : Int) : In32 (Go.bits .xor .u32 x y) := by
  rw [xor_u32]
  have := (B x ^^^ B y).isLt
  unfold In32; omega
theorem B_xor (x y : Int) : B (Go.bits .xor .u32 x y) = B x ^^^ B y := by rw [xor_u32, B_of_toNat]
theorem B_half {c : Int} (h : In32 c) : B (c / 2) = B c >>> 1 := by
  apply BitVec.eq_of_toNat_eq
  have := h.1
  have := h.2
  rw [B_toNat (by unfold In32; omega), BitVec.toNat_ushiftRight, B_toNat h, Nat.shiftRight_eq_div_pow]; omega
theorem B_byte {c : Int} (h : In32 c) : B (c / 256) = B c >>> 8 := by
  apply BitVec.eq_of_toNat_eq
  have := h.1
  have := h.2
  rw [B_toNat (by unfold In32; omega), BitVec.toNat_ushiftRight, B_toNat h, Nat.shiftRight_eq_div_pow]; omega
theorem B_lsb {c : Int} (h : In32 c) : (B c).getLsbD 0 = decide (c % 2 = 1) := by
  have h1 := B_toNat h
  have := h.1
  rw [BitVec.getLsbD, h1, Nat.testBit_zero]
  rw [Bool.eq_iff_iff, decide_eq_true_eq, decide_eq_true_eq]; omega
theorem and_one32 {c : Int} (h : In32 c) : Go.bits .and .u32 c 1 = c % 2 := by
  have h0 := h.1
  have h1 := h.2
  have := Go.bits_mask .u32 32 (by decide) (fun n a b => by rw [Go.IntKind.wrap_u32]; have : (2 : Int) ^ 32 = 4294967296 := by decide
                                                            omega) 1 (by decide) c h0 (by have : (2 : Int) ^ 32 = 4294967296 := by decide
                                                                                          omega)
  simpa using this
theorem B_bit {c : Int} (h : In32 c) : B (crcBit c) = stepB (B c) := by
  unfold crcBit stepB
  rw [B_xor, B_half h, and_one32 h, B_lsb h]
  congr 1
  by_cases h1 : c % 2 = 1
  · rw [h1]; decide
  · rw [show c % 2 = 0 by omega]; decide
theorem bit_in (c : Int) : In32 (crcBit c) := xor_in _ _
theorem bits_in {c : Int} (h : In32 c) (n : Nat) : In32 (crcBits n c) := by
  cases n with
  | zero => exact h
  | succ n => exact bit_in _
theorem stepN_succ (n : Nat) : ∀ v : B32, stepN (n + 1) v = stepB (stepN n v) := by
  induction n with
  | zero => intro v; rfl
  | succ n ih => intro v; show stepN (n + 1) (stepB v) = _; rw [ih]; rfl
theorem B_bits {c : Int} (h : In32 c) (n : Nat) : B (crcBits n c) = stepN n (B c) := by
  induction n with
  | zero => rfl
  | succ n ih => rw [stepN_succ, ← ih]; exact B_bit (bits_in h n)
theorem xor_u8 {x y : Int} (hx : 0 ≤ x ∧ x < 256) (hy : 0 ≤ y ∧ y < 256) : Go.bits .xor .u8 x y = ((x.toNat ^^^ y.toNat : Nat) : Int) := by
  obtain ⟨a, rfl⟩ := Int.eq_ofNat_of_zero_le hx.1
  obtain ⟨b, rfl⟩ := Int.eq_ofNat_of_zero_le hy.1
  have hlt : a ^^^ b < 2 ^ 8 := Nat.xor_lt_two_pow (by omega) (by omega)
  show IntKind.u8.wrap (((BitVec.ofInt 8 (a : Int) ^^^ BitVec.ofInt 8 (b : Int)).toNat : Nat) : Int) = _
  rw [BitVec.ofInt_natCast, BitVec.ofInt_natCast, BitVec.toNat_xor, BitVec.toNat_ofNat, BitVec.toNat_ofNat, Nat.mod_eq_of_lt (by omega : a < 2 ^ 8), Nat.mod_eq_of_lt (by omega : b < 2 ^ 8), Go.IntKind.wrap_u8]
  simp only [Int.toNat_natCast]
  omega
theorem xor_u8_in {x y : Int} : 0 ≤ Go.bits .xor .u8 x y ∧ Go.bits .xor .u8 x y < 256 := bits_u8 .xor x y
theorem B_index {c x : Int} (hc : In32 c) (hx : 0 ≤ x ∧ x < 256) : B (Go.bits .xor .u8 (c % 256) x) = (B c ^^^ B x) &&& 255#32 := by
  have h0 := hc.1
  have hlt : (c % 256).toNat ^^^ x.toNat < 2 ^ 8 := Nat.xor_lt_two_pow (by omega) (by omega)
  apply BitVec.eq_of_toNat_eq
  rw [xor_u8 ⟨by omega, by omega⟩ hx, B_toNat (by unfold In32; omega), BitVec.toNat_and, BitVec.toNat_xor, B_toNat hc, B_toNat (by unfold In32; omega)]
  simp only [Int.toNat_natCast]
  show _ = (c.toNat ^^^ x.toNat) &&& (2 ^ 8 - 1)
  rw [Nat.and_two_pow_sub_one_eq_mod, Nat.xor_mod_two_pow, Nat.mod_eq_of_lt (show x.toNat < 2 ^ 8 by omega)]
  congr 1
  omega
theorem B_next {c x : Int} (hc : In32 c) (hx : 0 ≤ x ∧ x < 256) : B (crcNext c x) = stepN 8 (B c ^^^ B x) := by
  unfold crcNext
  have hi := bits_u8 .xor (c % 256) x
  rw [B_xor, B_bits (by unfold In32; omega), B_index hc hx, B_byte hc, step8_split (B c ^^^ B x)]
  congr 1
  have : B x >>> 8 = 0#32 := by
    apply BitVec.eq_of_toNat_eq
    rw [BitVec.toNat_ushiftRight, B_toNat (by unfold In32; omega), Nat.shiftRight_eq_div_pow, Nat.div_eq_of_lt (by omega)]; rfl
  rw [BitVec.ushiftRight_xor_distrib, this, BitVec.xor_zero]
theorem fold_in {c : Int} (hc : In32 c) (l : List Int) : In32 (crcFold c l) := by
  induction l generalizing c with
  | nil => exact hc
  | cons x l ih => exact ih (xor_in _ _)
theorem B_fold {c : Int} (hc : In32 c) {l : List Int} (hl : Bs l) : B (crcFold c l) = foldB (B c) (l.map B) := by
  induction l generalizing c with
  | nil => rfl
  | cons x l ih =>
    show B (crcFold (crcNext c x) l) = foldB (stepN 8 (B c ^^^ B x)) (l.map B)
    rw [ih (show In32 (crcNext c x) from xor_in _ _) hl.tail, B_next hc hl.head]
/-- All ones. -/
def ones : B32 := 4294967295#32
theorem B_max : B IntKind.u32.max = ones := by decide
theorem not_in (c : Int) : In32 (Go.bits .xor .u32 IntKind.u32.max c) := xor_in _ _
theorem B_not (c : Int) : B (Go.bits .xor .u32 IntKind.u32.max c) = ones ^^^ B c := by rw [B_xor, B_max]
theorem not_not {c : Int} (h : In32 c) : Go.bits .xor .u32 IntKind.u32.max (Go.bits .xor .u32 IntKind.u32.max c) = c := by
  apply (B_inj (xor_in _ _) h).1
  rw [B_not, B_not, ← BitVec.xor_assoc, BitVec.xor_self, BitVec.zero_xor]
theorem fold_append (l m : List Int) : ∀ c, crcFold c (l ++ m) = crcFold (crcFold c l) m := by
  induction l with
  | nil => intro c; rfl
  | cons x l ih => intro c; exact ih _

/-- The sum of bytes, gone on. -/
def addS (s : Int) (l : List Int) : Int := Go.bits .xor .u32 IntKind.u32.max (crcFold (Go.bits .xor .u32 IntKind.u32.max s) l)
theorem Add_eq (s : Int) (l : List Int) : crc_Add.f s l = some (addS s l) := rfl
theorem Sum_eq (l : List Int) : crc_Sum.f l = some (addS 0 l) := by unfold crc_Sum.f; rw [Add_eq]; rfl
theorem add_in (s : Int) (l : List Int) : In32 (addS s l) := xor_in _ _
theorem add_parts (l m : List Int) : addS (addS 0 l) m = addS 0 (l ++ m) := by
  unfold addS
  rw [not_not (fold_in (xor_in _ _) l), fold_append]
theorem B_sum {l : List Int} (hl : Bs l) : B (addS 0 l) = ones ^^^ foldB ones (l.map B) := by
  unfold addS
  rw [B_not, B_fold (xor_in _ _) hl, B_not]
  congr 2

/-- Bytes with their sum behind them have one sum. -/
theorem sum_rest {l : List Int} (hl : Bs l) (n : Int) (hn : n = addS 0 l) :
    addS 0 (l ++ [n % 256, n / 256 % 256, n / 65536 % 256, n / 16777216 % 256]) = 1214729159 := by
  have hin : In32 n := by rw [hn]; exact add_in _ _
  have h0 := hin.1
  have h1 := hin.2
  have hb4 : Bs [n % 256, n / 256 % 256, n / 65536 % 256, n / 16777216 % 256] :=
    Bs.cons (by omega) (by omega) (Bs.cons (by omega) (by omega) (Bs.cons (by omega) (by omega) (Bs.cons (by omega) (by omega) Bs.nil)))
  apply (B_inj (add_in _ _) (by unfold In32; omega)).1
  rw [B_sum (hl.append hb4), List.map_append, foldB_append]
  have hB : ∀ x : Int, 0 ≤ x → x < 256 → (B x).toNat < 256 := fun x a b => by rw [B_toNat (by unfold In32; omega)]; omega
  show ones ^^^ foldB (foldB ones (l.map B)) [B (n % 256), B (n / 256 % 256), B (n / 65536 % 256), B (n / 16777216 % 256)] = _
  rw [foldB_four _ _ _ _ _ (hB _ (by omega) (by omega)) (hB _ (by omega) (by omega)) (hB _ (by omega) (by omega)) (hB _ (by omega) (by omega))]
  have hnB : B (n % 256) ^^^ (B (n / 256 % 256) <<< 8) ^^^ (B (n / 65536 % 256) <<< 16) ^^^ (B (n / 16777216 % 256) <<< 24) = B n := by
    have e0 : B (n % 256) = B n &&& 255#32 := by
      apply BitVec.eq_of_toNat_eq
      rw [B_toNat (by unfold In32; omega), BitVec.toNat_and, B_toNat hin]
      show _ = n.toNat &&& (2 ^ 8 - 1)
      rw [Nat.and_two_pow_sub_one_eq_mod]; omega
    have e1 : B (n / 256 % 256) = (B n >>> 8) &&& 255#32 := by
      apply BitVec.eq_of_toNat_eq
      rw [B_toNat (by unfold In32; omega), BitVec.toNat_and, BitVec.toNat_ushiftRight, B_toNat hin, Nat.shiftRight_eq_div_pow]
      show _ = n.toNat / 2 ^ 8 &&& (2 ^ 8 - 1)
      rw [Nat.and_two_pow_sub_one_eq_mod]; omega
    have e2 : B (n / 65536 % 256) = (B n >>> 16) &&& 255#32 := by
      apply BitVec.eq_of_toNat_eq
      rw [B_toNat (by unfold In32; omega), BitVec.toNat_and, BitVec.toNat_ushiftRight, B_toNat hin, Nat.shiftRight_eq_div_pow]
      show _ = n.toNat / 2 ^ 16 &&& (2 ^ 8 - 1)
      rw [Nat.and_two_pow_sub_one_eq_mod]; omega
    have e3 : B (n / 16777216 % 256) = (B n >>> 24) &&& 255#32 := by
      apply BitVec.eq_of_toNat_eq
      rw [B_toNat (by unfold In32; omega), BitVec.toNat_and, BitVec.toNat_ushiftRight, B_toNat hin, Nat.shiftRight_eq_div_pow]
      show _ = n.toNat / 2 ^ 24 &&& (2 ^ 8 - 1)
      rw [Nat.and_two_pow_sub_one_eq_mod]; omega
    rw [e0, e1, e2, e3]
    generalize B n = v
    apply BitVec.eq_of_getLsbD_eq
    intro i hi
    have h255 : ∀ j : Fin 32, (255#32).getLsbD j.val = decide (j.val < 8) := by decide
    have h255' : ∀ j : Nat, (255#32).getLsbD j = decide (j < 8) := fun j => by
      by_cases hj : j < 32
      · exact h255 ⟨j, hj⟩
      · rw [BitVec.getLsbD_of_ge _ _ (by omega), decide_eq_false (by omega)]
    simp only [BitVec.getLsbD_xor, BitVec.getLsbD_and, BitVec.getLsbD_shiftLeft, BitVec.getLsbD_ushiftRight, h255']
    by_cases c0 : i < 8
    · simp [c0, show i < 16 by omega, show i < 24 by omega]
    · by_cases c1 : i < 16
      · simp [c0, c1, hi, show i < 24 by omega, show i - 8 < 8 by omega, show 8 + (i - 8) = i by omega]
      · by_cases c2 : i < 24
        · simp [c0, c1, c2, hi, show ¬ i - 8 < 8 by omega, show i - 16 < 8 by omega, show 16 + (i - 16) = i by omega]
        · simp [c0, c1, c2, hi, show ¬ i - 8 < 8 by omega, show ¬ i - 16 < 8 by omega, show i - 24 < 8 by omega, show 24 + (i - 24) = i by omega]
  rw [hnB, hn, B_sum hl]
  have : ∀ s : B32, s ^^^ (ones ^^^ s) = ones := fun s => by rw [BitVec.xor_comm ones, ← BitVec.xor_assoc, BitVec.xor_self, BitVec.zero_xor]
  rw [this]
  decide

/-! ### Bits that are turned -/
theorem step_one {m t : Nat} (h : t ≤ m) (h32 : t < 32) : stepN m (1#32 <<< t) = stepN (m - t) 1#32 := by
  have hp : 2 ^ t ≤ 2 ^ 31 := Nat.pow_le_pow_right (by decide) (by omega)
  rw [show m = t + (m - t) by omega, stepN_add, stepN_shift t 1#32 (by
    show 1 * 2 ^ t < 4294967296
    have : (2 : Nat) ^ 31 = 2147483648 := by decide
    omega), show t + (m - t) - t = m - t by omega]
theorem B_xor8 {x y : Int} (hx : 0 ≤ x ∧ x < 256) (hy : 0 ≤ y ∧ y < 256) : B (Go.bits .xor .u8 x y) = B x ^^^ B y := by
  have hlt : x.toNat ^^^ y.toNat < 2 ^ 8 := Nat.xor_lt_two_pow (by omega) (by omega)
  apply BitVec.eq_of_toNat_eq
  rw [xor_u8 hx hy, B_toNat (by unfold In32; omega), BitVec.toNat_xor, B_toNat (by unfold In32; omega), B_toNat (by unfold In32; omega), Int.toNat_natCast]
theorem shl_bit {t : Nat} (h : t < 8) : shl .u8 1 (t : Int) = ((2 ^ t : Nat) : Int) ∧ 2 ^ t < 256 ∧ B ((2 ^ t : Nat) : Int) = 1#32 <<< t := by
  have : t = 0 ∨ t = 1 ∨ t = 2 ∨ t = 3 ∨ t = 4 ∨ t = 5 ∨ t = 6 ∨ t = 7 := by omega
  rcases this with rfl | rfl | rfl | rfl | rfl | rfl | rfl | rfl <;> decide
theorem flip_fold (s : B32) (l : List Int) (hl : Bs l) (i t : Nat) (hi : i < l.length) (ht : t < 8) :
    foldB s ((l.set i (Go.bits .xor .u8 (rd l (i : Int)) (shl .u8 1 (t : Int)))).map B) = foldB s (l.map B) ^^^ stepN (8 * l.length - (8 * i + t)) 1#32 := by
  obtain ⟨h1, h2, h3⟩ := shl_bit ht
  have hr := rd_bs hl hi
  have hs : l.set i (Go.bits .xor .u8 (rd l (i : Int)) (shl .u8 1 (t : Int))) = l.take i ++ Go.bits .xor .u8 (rd l (i : Int)) (shl .u8 1 (t : Int)) :: l.drop (i + 1) := by
    rw [List.set_eq_take_append_cons_drop, if_pos hi]
  have hd : l.map B = (l.take i).map B ++ B (rd l (i : Int)) :: (l.drop (i + 1)).map B := by
    conv => lhs; rw [← List.take_append_drop i l, rd_drop hi]
    rw [List.map_append, List.map_cons]
  rw [hs, hd, List.map_append, List.map_cons, h1, B_xor8 hr ⟨Int.natCast_nonneg _, Int.ofNat_lt.2 h2⟩, h3, foldB_turn, List.length_map, List.length_drop]
  rw [step_one (by omega) (by omega)]
  congr 2
  omega
theorem flip_bs {l : List Int} (hl : Bs l) (i : Nat) (x y : Int) : Bs (l.set i (Go.bits .xor .u8 x y)) := by
  intro z hz
  rcases List.mem_or_eq_of_mem_set hz with h | h
  · exact hl z h
  · rw [h]; exact bits_u8 .xor x y
/-- Which of the bits from the first on are turned: so many asked. -/
def pat (tb : Nat → Bool) (M : Nat) : Nat → B32
  | 0 => 0#32
  | j + 1 => if tb j = true ∧ j < M then pat tb M j ^^^ (1#32 <<< j) else pat tb M j
theorem pat_high (tb : Nat → Bool) (M : Nat) (j : Nat) : ∀ i, j ≤ i → (pat tb M j).getLsbD i = false := by
  induction j with
  | zero => intro i _; exact BitVec.getLsbD_zero
  | succ j ih =>
    intro i hi
    unfold pat
    split
    · rw [BitVec.getLsbD_xor, ih i (by omega), BitVec.getLsbD_shiftLeft]
      simp only [Bool.false_xor, BitVec.getLsbD_one, Bool.and_eq_false_imp]
      simp
      omega
    · exact ih i (by omega)
theorem pat_ne (tb : Nat → Bool) (M j : Nat) (hj : j < 32) (h : tb j = true ∧ j < M) : pat tb M (j + 1) ≠ 0#32 := by
  intro he
  have h1 : (pat tb M (j + 1)).getLsbD j = false := by rw [he]; exact BitVec.getLsbD_zero
  unfold pat at h1
  rw [if_pos h, BitVec.getLsbD_xor, pat_high tb M j j (Nat.le_refl _), BitVec.getLsbD_shiftLeft] at h1
  simp [hj] at h1

end Go.Proofs.Ytnkjbgoibmbmoaa.Plain
