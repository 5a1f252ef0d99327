/- Small tools: rounds, wraps, reads, bits. -/
import Derived.Test.YtaiechbdcddalaaMathVary
import Derived.Test.YtaiechbdcddalaaWMore
import Derived.Laws.BitsLemmas
import Derived.Lib.Bytes
/- Plain laws of shards (layer 19): in which shard a vertex is. No program in sight. -/
set_option linter.unusedVariables false
set_option linter.unusedSimpArgs false
namespace Go.Proofs.Ytaiechbdcddalaa.Plain

/-- Where a shard begins. -/
def lo (n s k : Nat) : Nat := n * k / s
/-! ### Numbers in so many bytes are in the order of their bytes -/
def lexLess : List Int → List Int → Bool
  | _, [] => false
  | [], _ :: _ => true
  | a :: x, b :: y => decide (a < b) || (decide (a = b) && lexLess x y)
end Go.Proofs.Ytaiechbdcddalaa.Plain

set_option linter.unusedVariables false
set_option linter.unusedSimpArgs false
namespace Go.Proofs.Ytaiechbdcddalaa.Plain
open Go.RowKit Go.Proofs.YtaiechbdcddalaaW.PrintWords Go.Proofs.YtaiechbdcddalaaW.PrintLast Go.Proofs.YtaiechbdcddalaaW.PrintMore

theorem wrap_u64 (n : Int) : IntKind.u64.wrap n = n % 18446744073709551616 := by simp [IntKind.wrap, IntKind.bits, IntKind.signed]
theorem u64_in {n : Int} (h0 : 0 ≤ n) (h1 : n < 18446744073709551616) : IntKind.u64.wrap n = n := by rw [wrap_u64]; omega
theorem w64_in {n : Int} (h0 : -9223372036854775808 ≤ n) (h1 : n < 9223372036854775808) : wrap64 n = n := by unfold wrap64; omega
theorem u64_natw (n : Int) (h0 : 0 ≤ n) (h1 : n < 2 ^ 64) : IntKind.u64.wrap n = n := u64_in h0 (by simpa using h1)

theorem wf_u8 {x : Int} (h : (Lit.int .u8 x).wf = true) : 0 ≤ x ∧ x < 256 := by
  have e1 : IntKind.u8.min = 0 := by decide
  have e2 : IntKind.u8.max = 255 := by decide
  simp only [Lit.wf, e1, e2, Bool.and_eq_true, decide_eq_true_eq] at h
  omega
theorem rd_drop {l : List Int} {i : Nat} (h : i < l.length) : l.drop i = rd l (i : Int) :: l.drop (i + 1) := by
  rw [List.drop_eq_getElem_cons h]; congr 1
  simp [rd, List.getD_eq_getElem?_getD, List.getElem?_eq_getElem h]
theorem rd_bs {l : List Int} (hb : Bs l) {i : Nat} (h : i < l.length) : 0 ≤ rd l (i : Int) ∧ rd l (i : Int) < 256 := by
  refine hb _ ?_
  simp [rd, List.getD_eq_getElem?_getD, List.getElem?_eq_getElem h]
theorem drop_len {l : List Int} {i : Nat} (h : i ≤ l.length) (he : l.drop i = []) : i = l.length := by
  have := List.drop_eq_nil_iff.1 he; omega

theorem or_comm_bits (k : IntKind) (a b : Int) : Go.bits .or k a b = Go.bits .or k b a := by
  simp [Go.bits, BitVec.or_comm]
theorem or_sum (k : Nat) {acc x : Int} (hk : k ≤ 64) (h0 : 0 ≤ acc) (h1 : acc < 2 ^ k) (hx0 : 0 ≤ x) (hx1 : x * 2 ^ k < 18446744073709551616) : Go.bits .or .u64 acc (x * 2 ^ k) = acc + x * 2 ^ k := by
  have hp : (0 : Int) < 2 ^ k := Int.pow_pos (by decide)
  have hpk : (2 : Int) ^ k ≤ 2 ^ 64 := by
    have : (2 : Nat) ^ k ≤ 2 ^ 64 := Nat.pow_le_pow_right (by decide) hk
    exact_mod_cast this
  have h64 : (2 : Int) ^ 64 = 18446744073709551616 := by decide
  rw [or_comm_bits, Go.bits_join .u64 64 (by decide) u64_natw k (x * 2 ^ k) acc (Int.mul_nonneg hx0 (Int.le_of_lt hp)) (Int.mul_emod_left ..) (by omega) h0 h1 (by omega)]
  omega
theorem andNot128 : ∀ x : Nat, x < 256 → Go.bits .andNot .u8 (x : Int) 128 = ((x % 128 : Nat) : Int) := by decide +kernel
theorem or128 : ∀ x : Nat, x < 256 → Go.bits .or .u8 (x : Int) 128 = ((x % 128 + 128 : Nat) : Int) := by decide +kernel
theorem shl64 (x y : Int) (h0 : 0 ≤ y) (h1 : y ≤ 64) : shl .u64 x y = IntKind.u64.wrap (x * 2 ^ y.toNat) := by
  unfold shl; rw [Nat.min_eq_left (by show y.toNat ≤ 64; omega)]
theorem shr64 (x y : Int) (h0 : 0 ≤ y) (h1 : y ≤ 64) : shr .u64 x y = x / 2 ^ y.toNat := by
  unfold shr; rw [Nat.min_eq_left (by show y.toNat ≤ 64; omega)]
theorem pow128 (i : Nat) : (2 : Int) ^ (7 * i) = 128 ^ i := by rw [Int.pow_mul]; rfl
theorem pow128_pos (i : Nat) : (0 : Int) < 128 ^ i := Int.pow_pos (by decide)
theorem Ev.eq {α : Type} {g : Nat → Option α} {r r' : α} (h : Ev g r) (e : r = r') : Ev g r' := e ▸ h
theorem some_ev {α : Type} {g : Nat → Option α} {r : α} (h : ∀ k, g (k + 1) = some r) : Ev g r := ⟨1, fun k hk => by obtain ⟨m, rfl⟩ : ∃ m, k = m + 1 := ⟨k - 1, by omega⟩; exact h m⟩
theorem all_ev {α : Type} {g : Nat → Option α} {r : α} (h : ∀ k, g k = some r) : Ev g r := ⟨0, fun k _ => h k⟩

theorem sn (xs : List Int) : (strOfNums xs).toList = xs.map fun n => UInt8.ofNat n.toNat := Lib.strOfNums_toList xs
theorem ofNat_inj {x y : Int} (hx : 0 ≤ x ∧ x < 256) (hy : 0 ≤ y ∧ y < 256) (h : UInt8.ofNat x.toNat = UInt8.ofNat y.toNat) : x = y := by
  have := congrArg UInt8.toNat h
  simp only [UInt8.toNat_ofNat'] at this
  omega
theorem sn_inj {a b : List Int} (ha : Bs a) (hb : Bs b) : (strOfNums a).toList = (strOfNums b).toList ↔ a = b := by
  constructor
  · intro h
    rw [sn, sn] at h
    induction a generalizing b with
    | nil => cases b with
      | nil => rfl
      | cons y b => simp at h
    | cons x a ih => cases b with
      | nil => simp at h
      | cons y b =>
        simp only [List.map_cons, List.cons.injEq] at h
        rw [ofNat_inj ha.head hb.head h.1, ih ha.tail hb.tail h.2]
  · rintro rfl; rfl
theorem less_lex {a b : List Int} (ha : Bs a) (hb : Bs b) : Op.bytesLess (strOfNums a).toList (strOfNums b).toList = lexLess a b := by
  rw [sn, sn]
  induction a generalizing b with
  | nil => cases b <;> rfl
  | cons x a ih => cases b with
    | nil => rfl
    | cons y b =>
      have hx := ha.head
      have hy := hb.head
      simp only [List.map_cons, Op.bytesLess, lexLess]
      rw [ih ha.tail hb.tail]
      congr 1
      · rw [Bool.eq_iff_iff, decide_eq_true_eq, decide_eq_true_eq, UInt8.lt_iff_toNat_lt]
        simp only [UInt8.toNat_ofNat']
        omega
      · congr 1
        rw [Bool.eq_iff_iff, beq_iff_eq, decide_eq_true_eq]
        exact ⟨ofNat_inj hx hy, fun h => by rw [h]⟩

/-! ### Exclusive or with all ones, and with none -/
end Go.Proofs.Ytaiechbdcddalaa.Plain
