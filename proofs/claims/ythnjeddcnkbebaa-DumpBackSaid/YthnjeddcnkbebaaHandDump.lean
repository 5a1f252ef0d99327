/- The items that a dump tells, as plain lists. -/
import Derived.Test.YthnjeddcnkbebaaHandRows
set_option linter.unusedVariables false
namespace Go.Proofs.Ythnjeddcnkbebaa.Hand
/-- The items that bytes tell, eight bytes each, from a place on; mk: an item. -/
def itemsN {α : Type} (mk : Bool → List Int → List Int → Int → Int → α) : Nat → List Int → Int → List α
  | 0, _, _ => []
  | n + 1, r, p => if 8 ≤ r.length then mk true (r.take 4) ((r.drop 4).take 4) 0 0 :: itemsN mk n (r.drop 8) (p + 8) else if 0 < r.length then [mk false [] [] 5 p] else []
def headB : List UInt8 := [99, 114, 101, 101, 108, 100, 109, 112]
def headN : List Int := [99, 114, 101, 101, 108, 100, 109, 112]
def isHead (b : List Int) : Prop := 8 ≤ b.length ∧ (strOfNums (b.take 8)).toList = headB
instance (b : List Int) : Decidable (isHead b) := by unfold isHead; exact inferInstance
def itemsR {α : Type} (mk : Bool → List Int → List Int → Int → Int → α) (b : List Int) : List α := if isHead b then itemsN mk (b.length + 1) (b.drop 8) 8 else [mk false [] [] 100 0]
theorem itemsN_len {α : Type} (mk : Bool → List Int → List Int → Int → Int → α) : ∀ (n : Nat) (r : List Int) (p : Int), (itemsN mk n r p).length ≤ r.length
  | 0, _, _ => Nat.zero_le _
  | n + 1, r, p => by
    unfold itemsN
    split
    · have := itemsN_len mk n (r.drop 8) (p + 8)
      rw [List.length_drop] at this
      rw [List.length_cons]
      omega
    · split
      · simp; omega
      · exact Nat.zero_le _
end Go.Proofs.Ythnjeddcnkbebaa.Hand
