/- Plain laws of the sum of bytes (layer 2): bit by bit, on 32 bits. No program in sight. -/
import Derived.Test.YtnkjbgoibmbmoaaMathVary
set_option linter.unusedVariables false
set_option linter.unusedSimpArgs false
namespace Go.Proofs.Ytnkjbgoibmbmoaa.Plain

abbrev B32 := BitVec 32
def poly : B32 := 2197175160#32
/-- One bit. -/
def stepB (c : B32) : B32 := (c >>> 1) ^^^ (if c.getLsbD 0 = true then poly else 0#32)
/-- So many bits. -/
def stepN : Nat → B32 → B32
  | 0, c => c
  | n + 1, c => stepN n (stepB c)

theorem stepB_xor (a b : B32) : stepB (a ^^^ b) = stepB a ^^^ stepB b := by
  unfold stepB
  rw [BitVec.getLsbD_xor, BitVec.ushiftRight_xor_distrib]
  cases a.getLsbD 0 <;> cases b.getLsbD 0 <;> simp
  · rw [BitVec.xor_assoc]
  · rw [BitVec.xor_assoc, BitVec.xor_assoc, BitVec.xor_comm poly]
  · rw [BitVec.xor_assoc, ← BitVec.xor_assoc poly, BitVec.xor_comm poly, BitVec.xor_assoc, BitVec.xor_self, BitVec.xor_zero]
theorem stepB_zero : stepB 0#32 = 0#32 := by decide
theorem stepB_ker {z : B32} (h : stepB z = 0#32) : z = 0#32 := by
  unfold stepB at h
  by_cases hb : z.getLsbD 0 = true
  · rw [if_pos hb] at h
    exfalso
    have h1 : (z >>> 1) = poly := by
      have := congrArg (fun x => x ^^^ poly) h
      simpa [BitVec.xor_assoc] using this
    have h2 : (z >>> 1).getLsbD 31 = poly.getLsbD 31 := by rw [h1]
    rw [BitVec.getLsbD_ushiftRight] at h2
    have h3 : z.getLsbD (1 + 31) = false := BitVec.getLsbD_of_ge _ _ (by decide)
    rw [h3] at h2
    exact absurd h2 (by decide)
  · rw [if_neg hb, BitVec.xor_zero] at h
    apply BitVec.eq_of_getLsbD_eq
    intro i hi
    rw [BitVec.getLsbD_zero]
    cases i with
    | zero => simpa using hb
    | succ j =>
      have : (z >>> 1).getLsbD j = false := by rw [h]; exact BitVec.getLsbD_zero
      rw [BitVec.getLsbD_ushiftRight, Nat.add_comm] at this
      exact this
theorem stepN_xor (n : Nat) : ∀ a b : B32, stepN n (a ^^^ b) = stepN n a ^^^ stepN n b := by
  induction n with
  | zero => intro a b; rfl
  | succ n ih => intro a b; show stepN n (stepB (a ^^^ b)) = _; rw [stepB_xor, ih]; rfl
theorem stepN_zero (n : Nat) : stepN n 0#32 = 0#32 := by
  induction n with
  | zero => rfl
  | succ n ih => show stepN n (stepB 0#32) = _; rw [stepB_zero, ih]
theorem stepN_ker (n : Nat) : ∀ z : B32, stepN n z = 0#32 → z = 0#32 := by
  induction n with
  | zero => intro z h; exact h
  | succ n ih => intro z h; exact stepB_ker (ih _ h)
theorem stepN_inj {n : Nat} {a b : B32} (h : stepN n a = stepN n b) : a = b := by
  have h1 : stepN n (a ^^^ b) = 0#32 := by rw [stepN_xor, h, BitVec.xor_self]
  have h2 := stepN_ker n _ h1
  have h3 := congrArg (fun x => x ^^^ b) h2
  simpa [BitVec.xor_assoc] using h3
theorem stepN_add (m n : Nat) : ∀ c : B32, stepN (m + n) c = stepN n (stepN m c) := by
  induction m with
  | zero => intro c; rw [Nat.zero_add]; rfl
  | succ m ih => intro c; rw [Nat.succ_add]; show stepN (m + n) (stepB c) = _; rw [ih]; rfl
theorem stepB_shift {y : B32} (h : y.toNat < 2147483648) : stepB (y <<< 1) = y := by
  unfold stepB
  have h0 : (y <<< 1).getLsbD 0 = false := by simp
  rw [if_neg (by simp), BitVec.xor_zero]
  apply BitVec.eq_of_toNat_eq
  simp only [BitVec.toNat_ushiftRight, BitVec.toNat_shiftLeft, Nat.shiftLeft_eq, Nat.shiftRight_eq_div_pow]
  omega
theorem stepN_shift (n : Nat) : ∀ y : B32, y.toNat * 2 ^ n < 4294967296 → stepN n (y <<< n) = y := by
  induction n with
  | zero => intro y _; simp [stepN]
  | succ n ih =>
    intro y h
    rw [Nat.pow_succ, ← Nat.mul_assoc] at h
    show stepN n (stepB (y <<< (n + 1))) = y
    rw [BitVec.shiftLeft_add, stepB_shift, ih y (by omega)]
    rw [BitVec.toNat_shiftLeft, Nat.shiftLeft_eq, Nat.mod_eq_of_lt (by omega)]; omega
/-- Eight bits at once: by the table, and by a shift. -/
theorem step8_split (v : B32) : stepN 8 v = stepN 8 (v &&& 255#32) ^^^ (v >>> 8) := by
  have hv : v = (v &&& 255#32) ^^^ ((v >>> 8) <<< 8) := by
    apply BitVec.eq_of_getLsbD_eq
    intro i hi
    rw [BitVec.getLsbD_xor, BitVec.getLsbD_and, BitVec.getLsbD_shiftLeft, BitVec.getLsbD_ushiftRight]
    have h255 : ∀ j : Fin 32, (255#32).getLsbD j.val = decide (j.val < 8) := by decide
    rw [h255 ⟨i, hi⟩]
    by_cases h8 : i < 8
    · simp [h8]
    · simp [h8, hi, show 8 + (i - 8) = i by omega]
  have h2 : stepN 8 ((v >>> 8) <<< 8) = v >>> 8 := by
    apply stepN_shift
    have := v.isLt
    rw [BitVec.toNat_ushiftRight, Nat.shiftRight_eq_div_pow]; omega
  conv => lhs; rw [hv]
  rw [stepN_xor, h2]

/-- The state behind bytes. -/
def foldB (s : B32) : List B32 → B32
  | [] => s
  | x :: r => foldB (stepN 8 (s ^^^ x)) r
theorem foldB_append (l m : List B32) : ∀ s, foldB s (l ++ m) = foldB (foldB s l) m := by
  induction l with
  | nil => intro s; rfl
  | cons x l ih => intro s; exact ih _
theorem foldB_xor (l : List B32) : ∀ a b : B32, foldB (a ^^^ b) l = foldB a l ^^^ stepN (8 * l.length) b := by
  induction l with
  | nil => intro a b; rfl
  | cons x l ih =>
    intro a b
    show foldB (stepN 8 (a ^^^ b ^^^ x)) l = foldB (stepN 8 (a ^^^ x)) l ^^^ _
    rw [show a ^^^ b ^^^ x = (a ^^^ x) ^^^ b by rw [BitVec.xor_assoc, BitVec.xor_assoc, BitVec.xor_comm b], stepN_xor, ih, ← stepN_add]
    rw [List.length_cons, show 8 * (l.length + 1) = 8 + 8 * l.length by omega]
/-- A byte that is turned turns the state by what is left. -/
theorem foldB_turn (l m : List B32) (x y s : B32) : foldB s (l ++ (x ^^^ y) :: m) = foldB s (l ++ x :: m) ^^^ stepN (8 * (m.length + 1)) y := by
  rw [foldB_append, foldB_append]
  show foldB (stepN 8 (foldB s l ^^^ (x ^^^ y))) m = foldB (stepN 8 (foldB s l ^^^ x)) m ^^^ _
  rw [← BitVec.xor_assoc, stepN_xor, foldB_xor, ← stepN_add, show 8 + 8 * m.length = 8 * (m.length + 1) by omega]
/-- Bytes that are turned: the state of what is turned alone. -/
theorem foldB_zip (l : List B32) : ∀ (m : List B32) (a b : B32), l.length = m.length → foldB (a ^^^ b) (List.zipWith (· ^^^ ·) l m) = foldB a l ^^^ foldB b m := by
  induction l with
  | nil => intro m a b h; cases m with
    | nil => rfl
    | cons y m => simp at h
  | cons x l ih => intro m a b h; cases m with
    | nil => simp at h
    | cons y m =>
      show foldB (stepN 8 (a ^^^ b ^^^ (x ^^^ y))) (List.zipWith (· ^^^ ·) l m) = foldB (stepN 8 (a ^^^ x)) l ^^^ foldB (stepN 8 (b ^^^ y)) m
      rw [← ih m _ _ (by simpa using h), ← stepN_xor]
      congr 2
      rw [BitVec.xor_assoc, BitVec.xor_assoc, ← BitVec.xor_assoc b, BitVec.xor_comm b x, BitVec.xor_assoc]
/-- A number's four bytes, the lowest first. -/
theorem foldB_four (s x0 x1 x2 x3 : B32) (h0 : x0.toNat < 256) (h1 : x1.toNat < 256) (h2 : x2.toNat < 256) (h3 : x3.toNat < 256) :
    foldB s [x0, x1, x2, x3] = stepN 32 (s ^^^ (x0 ^^^ (x1 <<< 8) ^^^ (x2 <<< 16) ^^^ (x3 <<< 24))) := by
  have e1 : x1 = stepN 8 (x1 <<< 8) := (stepN_shift 8 x1 (by omega)).symm
  have e2 : x2 = stepN 16 (x2 <<< 16) := (stepN_shift 16 x2 (by omega)).symm
  have e3 : x3 = stepN 24 (x3 <<< 24) := (stepN_shift 24 x3 (by omega)).symm
  show stepN 8 (stepN 8 (stepN 8 (stepN 8 (s ^^^ x0) ^^^ x1) ^^^ x2) ^^^ x3) = _
  conv => lhs; rw [e1, e2, e3]
  rw [← stepN_xor 8 (s ^^^ x0), ← stepN_add 8 8, ← stepN_xor 16, ← stepN_add 16 8, ← stepN_xor 24, ← stepN_add 24 8]
  congr 1
  simp only [BitVec.xor_assoc]

end Go.Proofs.Ytnkjbgoibmbmoaa.Plain
