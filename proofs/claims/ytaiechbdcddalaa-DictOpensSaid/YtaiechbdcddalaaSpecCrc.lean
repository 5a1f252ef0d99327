/- What the printed functions of layer 2 (crc) compute, told on 32 bits. -/
import Derived.Test.YtaiechbdcddalaaMathVary
import Derived.Test.YtaiechbdcddalaaPrint2
import Derived.Test.YtaiechbdcddalaaSpecTools
/- Plain laws of the sum of bytes (layer 2): bit by bit, on 32 bits. No program in sight. -/
set_option linter.unusedVariables false
set_option linter.unusedSimpArgs false
namespace Go.Proofs.Ytaiechbdcddalaa.Plain

abbrev B32 := BitVec 32
end Go.Proofs.Ytaiechbdcddalaa.Plain

set_option linter.unusedVariables false
set_option linter.unusedSimpArgs false
namespace Go.Proofs.Ytaiechbdcddalaa.Plain
open Go.RowKit Go.Proofs.YtaiechbdcddalaaW.PrintWords Go.Proofs.YtaiechbdcddalaaW.PrintLast Go.Proofs.YtaiechbdcddalaaW.PrintMore Go.Proofs.Ytaiechbdcddalaa.Print

/-- A number as 32 bits. -/
def B (x : Int) : B32 := BitVec.ofInt 32 x
def In32 (x : Int) : Prop := 0 ≤ x ∧ x < 4294967296
theorem B_toNat {x : Int} (h : In32 x) : (B x).toNat = x.toNat := by
  obtain ⟨n, rfl⟩ := Int.eq_ofNat_of_zero_le h.1
  have := h.2
  unfold B
  rw [BitVec.ofInt_natCast, BitVec.toNat_ofNat]
  simp only [Int.toNat_natCast]; omega
theorem B_inj {x y : Int} (hx : In32 x) (hy : In32 y) : B x = B y ↔ x = y := by
  constructor
  · intro h
    have h1 := congrArg BitVec.toNat h
    rw [B_toNat hx, B_toNat hy] at h1
    have := hx.1
    have := hy.1
    omega
  · rintro rfl; rfl
theorem B_of_toNat (v : B32) : B (v.toNat : Int) = v := by
  apply BitVec.eq_of_toNat_eq
  rw [B_toNat ⟨by omega, by have := v.isLt; omega⟩]; rfl
theorem xor_u32 (x y : Int) : Go.bits .xor .u32 x y = ((B x ^^^ B y).toNat : Int) := by
  show IntKind.u32.wrap (((B x ^^^ B y).toNat : Nat) : Int) = _
  rw [Go.IntKind.wrap_u32]
  have := (B x ^^^ B y).isLt
  omega
theorem xor_in (x y : Int) : In32 (Go.bits .xor .u32 x y) := by
  rw [xor_u32]
  have := (B x ^^^ B y).isLt
  unfold In32; omega
theorem B_xor (x y : Int) : B (Go.bits .xor .u32 x y) = B x ^^^ B y := by rw [xor_u32, B_of_toNat]
theorem and_one32 {c : Int} (h : In32 c) : Go.bits .and .u32 c 1 = c % 2 := by
  have h0 := h.1
  have h1 := h.2
  have := Go.bits_mask .u32 32 (by decide) (fun n a b => by rw [Go.IntKind.wrap_u32]; have : (2 : Int) ^ 32 = 4294967296 := by decide
                                                            omega) 1 (by decide) c h0 (by have : (2 : Int) ^ 32 = 4294967296 := by decide
                                                                                          omega)
  simpa using this
theorem bit_in (c : Int) : In32 (crcBit c) := xor_in _ _
theorem bits_in {c : Int} (h : In32 c) (n : Nat) : In32 (crcBits n c) := by
  cases n with
  | zero => exact h
  | succ n => exact bit_in _
theorem xor_u8 {x y : Int} (hx : 0 ≤ x ∧ x < 256) (hy : 0 ≤ y ∧ y < 256) : Go.bits .xor .u8 x y = ((x.toNat ^^^ y.toNat : Nat) : Int) := by
  obtain ⟨a, rfl⟩ := Int.eq_ofNat_of_zero_le hx.1
  obtain ⟨b, rfl⟩ := Int.eq_ofNat_of_zero_le hy.1
  have hlt : a ^^^ b < 2 ^ 8 := Nat.xor_lt_two_pow (by omega) (by omega)
  show IntKind.u8.wrap (((BitVec.ofInt 8 (a : Int) ^^^ BitVec.ofInt 8 (b : Int)).toNat : Nat) : Int) = _
  rw [BitVec.ofInt_natCast, BitVec.ofInt_natCast, BitVec.toNat_xor, BitVec.toNat_ofNat, BitVec.toNat_ofNat, Nat.mod_eq_of_lt (by omega : a < 2 ^ 8), Nat.mod_eq_of_lt (by omega : b < 2 ^ 8), Go.IntKind.wrap_u8]
  simp only [Int.toNat_natCast]
  omega
theorem B_index {c x : Int} (hc : In32 c) (hx : 0 ≤ x ∧ x < 256) : B (Go.bits .xor .u8 (c % 256) x) = (B c ^^^ B x) &&& 255#32 := by
  have h0 := hc.1
  have hlt : (c % 256).toNat ^^^ x.toNat < 2 ^ 8 := Nat.xor_lt_two_pow (by omega) (by omega)
  apply BitVec.eq_of_toNat_eq
  rw [xor_u8 ⟨by omega, by omega⟩ hx, B_toNat (by unfold In32; omega), BitVec.toNat_and, BitVec.toNat_xor, B_toNat hc, B_toNat (by unfold In32; omega)]
  simp only [Int.toNat_natCast]
  show _ = (c.toNat ^^^ x.toNat) &&& (2 ^ 8 - 1)
  rw [Nat.and_two_pow_sub_one_eq_mod, Nat.xor_mod_two_pow, Nat.mod_eq_of_lt (show x.toNat < 2 ^ 8 by omega)]
  congr 1
  omega
/-- The sum of bytes, gone on. -/
def addS (s : Int) (l : List Int) : Int := Go.bits .xor .u32 IntKind.u32.max (crcFold (Go.bits .xor .u32 IntKind.u32.max s) l)
theorem Add_eq (s : Int) (l : List Int) : crc_Add.f s l = some (addS s l) := rfl
theorem Sum_eq (l : List Int) : crc_Sum.f l = some (addS 0 l) := by unfold crc_Sum.f; rw [Add_eq]; rfl
theorem add_in (s : Int) (l : List Int) : In32 (addS s l) := xor_in _ _
/-! ### Bits that are turned -/
end Go.Proofs.Ytaiechbdcddalaa.Plain
