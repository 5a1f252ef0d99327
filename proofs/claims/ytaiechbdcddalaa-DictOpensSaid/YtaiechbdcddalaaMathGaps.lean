/- Plain laws of neighbours in few bytes (layer 17): what is put is taken, cut it is not, and nothing else is taken. No program in sight. -/
import Derived.Test.YtaiechbdcddalaaMathVary
set_option linter.unusedVariables false
set_option linter.unusedSimpArgs false
namespace Go.Proofs.Ytaiechbdcddalaa.Plain

/-- Numbers of 32 bits. -/
def Us (l : List Int) : Prop := ∀ x ∈ l, 0 ≤ x ∧ x < 4294967296
theorem Us.nil : Us [] := by intro x h; simp at h
theorem Us.head {x : Int} {l : List Int} (h : Us (x :: l)) : 0 ≤ x ∧ x < 4294967296 := h x (by simp)
theorem Us.tail {x : Int} {l : List Int} (h : Us (x :: l)) : Us l := fun y hy => h y (by simp [hy])
theorem Us.cons {x : Int} {l : List Int} (h0 : 0 ≤ x) (h1 : x < 4294967296) (h : Us l) : Us (x :: l) := by
  intro y hy
  rcases List.mem_cons.1 hy with rfl | hy
  · exact ⟨h0, h1⟩
  · exact h y hy
theorem Us.take {l : List Int} (h : Us l) (n : Nat) : Us (l.take n) := fun x hx => h x (List.mem_of_mem_take hx)
theorem Us.drop {l : List Int} (h : Us l) (n : Nat) : Us (l.drop n) := fun x hx => h x (List.mem_of_mem_drop hx)
theorem Us.append {l m : List Int} (h : Us l) (k : Us m) : Us (l ++ m) := by
  intro x hx
  rcases List.mem_append.1 hx with hx | hx
  · exact h x hx
  · exact k x hx

/-! ### Numbers that rise, of some -/
/-! ### Who leaves out the last -/
end Go.Proofs.Ytaiechbdcddalaa.Plain
