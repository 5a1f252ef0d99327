/- Plain laws of shards (layer 19): in which shard a vertex is. No program in sight. -/
import Derived.Test.YtaiechbdcddalaaMathVary
set_option linter.unusedVariables false
set_option linter.unusedSimpArgs false
namespace Go.Proofs.Ytaiechbdcddalaa.Plain

/-- Where a shard begins. -/
def lo (n s k : Nat) : Nat := n * k / s
/-! ### Numbers in so many bytes are in the order of their bytes -/
def lexLess : List Int → List Int → Bool
  | _, [] => false
  | [], _ :: _ => true
  | a :: x, b :: y => decide (a < b) || (decide (a = b) && lexLess x y)
end Go.Proofs.Ytaiechbdcddalaa.Plain
