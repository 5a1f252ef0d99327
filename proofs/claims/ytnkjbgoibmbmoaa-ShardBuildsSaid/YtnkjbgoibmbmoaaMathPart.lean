/- Plain laws of shards (layer 19): in which shard a vertex is. No program in sight. -/
import Derived.Test.YtnkjbgoibmbmoaaMathVary
set_option linter.unusedVariables false
set_option linter.unusedSimpArgs false
namespace Go.Proofs.Ytnkjbgoibmbmoaa.Plain

/-- Where a shard begins. -/
def lo (n s k : Nat) : Nat := n * k / s
/-- The shard in which a vertex is. -/
def shardOf (n s v : Nat) : Nat := (s * (v + 1) - 1) / n
theorem lo_le {n s k v : Nat} (hn : 0 < n) (hs : 0 < s) : lo n s k ≤ v ↔ k ≤ shardOf n s v := by
  have h1 : 1 ≤ s * (v + 1) := Nat.mul_pos hs (by omega)
  unfold lo shardOf
  rw [← Nat.lt_succ_iff, Nat.div_lt_iff_lt_mul hs, Nat.le_div_iff_mul_le hn, Nat.mul_comm n k, Nat.mul_comm (v.succ) s]
  show k * n < s * (v + 1) ↔ _
  omega
theorem lt_lo {n s k v : Nat} (hn : 0 < n) (hs : 0 < s) : v < lo n s k ↔ shardOf n s v < k := by
  have := lo_le (k := k) (v := v) hn hs; omega
theorem shard_lt {n s v : Nat} (hn : 0 < n) (hs : 0 < s) (hv : v < n) : shardOf n s v < s := by
  unfold shardOf
  rw [Nat.div_lt_iff_lt_mul hn]
  have h1 : s * (v + 1) ≤ s * n := Nat.mul_le_mul_left s hv
  have h2 : 1 ≤ s * (v + 1) := Nat.mul_pos hs (by omega)
  omega
theorem first_le {n s v : Nat} (hn : 0 < n) (hs : 0 < s) : v * s / n ≤ shardOf n s v := by
  unfold shardOf
  refine Nat.div_le_div_right ?_
  rw [Nat.mul_add, Nat.mul_comm]; omega
theorem shard_mono {n s v w : Nat} (h : v ≤ w) : shardOf n s v ≤ shardOf n s w := by
  unfold shardOf
  refine Nat.div_le_div_right ?_
  have : s * (v + 1) ≤ s * (w + 1) := Nat.mul_le_mul_left s (by omega)
  omega
theorem shard_one {n v : Nat} (hv : v < n) : shardOf n 1 v = 0 := by
  unfold shardOf; rw [Nat.one_mul]; exact Nat.div_eq_of_lt (by omega)
theorem lo_zero (n s : Nat) : lo n s 0 = 0 := by unfold lo; simp
theorem lo_all {n s : Nat} (hs : 0 < s) : lo n s s = n := by unfold lo; exact Nat.mul_div_cancel n hs
theorem lo_step {n s k : Nat} (hs : 0 < s) : lo n s k + n / s ≤ lo n s (k + 1) ∧ lo n s (k + 1) ≤ lo n s k + n / s + 1 := by
  unfold lo
  have h0 := Nat.div_add_mod n s
  have h1 := Nat.div_add_mod (n * k) s
  have h3 := Nat.mod_lt n hs
  have h4 := Nat.mod_lt (n * k) hs
  rw [Nat.mul_succ]
  constructor
  · rw [Nat.le_div_iff_mul_le hs, Nat.add_mul, Nat.mul_comm (n * k / s), Nat.mul_comm (n / s)]; omega
  · rw [← Nat.lt_succ_iff, Nat.div_lt_iff_lt_mul hs]
    show n * k + n < (n * k / s + n / s + 1 + 1) * s
    rw [Nat.add_mul, Nat.add_mul, Nat.add_mul, Nat.mul_comm (n * k / s), Nat.mul_comm (n / s)]; omega

/-! ### Numbers in so many bytes are in the order of their bytes -/
def lexLess : List Int → List Int → Bool
  | _, [] => false
  | [], _ :: _ => true
  | a :: x, b :: y => decide (a < b) || (decide (a = b) && lexLess x y)
theorem digit_lt {P r r' h h' : Nat} (hr : r < P) (hr' : r' < P) : (r + P * h < r' + P * h') ↔ (h < h' ∨ (h = h' ∧ r < r')) := by
  rcases Nat.lt_trichotomy h h' with hh | hh | hh
  · have : P * (h + 1) ≤ P * h' := Nat.mul_le_mul_left P hh
    rw [Nat.mul_add] at this
    constructor
    · intro _; exact .inl hh
    · intro _; omega
  · subst hh
    constructor
    · intro _; exact .inr ⟨rfl, by omega⟩
    · rintro (h1 | ⟨_, h1⟩) <;> omega
  · have : P * (h' + 1) ≤ P * h := Nat.mul_le_mul_left P hh
    rw [Nat.mul_add] at this
    constructor
    · intro _; omega
    · rintro (h1 | ⟨h1, _⟩) <;> omega
theorem lex_fix (s x y : Nat) : lexLess (fixN s x) (fixN s y) = decide (x % 256 ^ s < y % 256 ^ s) := by
  induction s with
  | zero => simp [fixN, lexLess, Nat.mod_one]
  | succ s ih =>
    have hp : 0 < 256 ^ s := Nat.pow_pos (by decide)
    simp only [fixN, lexLess, ih]
    rw [Bool.eq_iff_iff]
    simp only [Bool.or_eq_true, Bool.and_eq_true, decide_eq_true_eq, Nat.pow_succ, Nat.mod_mul]
    rw [digit_lt (Nat.mod_lt _ hp) (Nat.mod_lt _ hp)]
    omega
theorem lex_fix' {s x y : Nat} (hx : x < 256 ^ s) (hy : y < 256 ^ s) : lexLess (fixN s x) (fixN s y) = decide (x < y) := by
  rw [lex_fix, Nat.mod_eq_of_lt hx, Nat.mod_eq_of_lt hy]

end Go.Proofs.Ytnkjbgoibmbmoaa.Plain
