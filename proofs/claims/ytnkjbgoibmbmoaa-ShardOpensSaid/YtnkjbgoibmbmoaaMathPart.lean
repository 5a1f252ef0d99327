/- Plain laws of shards (layer 19): in which shard a vertex is. No program in sight. -/
import Derived.Test.YtnkjbgoibmbmoaaMathVary
set_option linter.unusedVariables false
set_option linter.unusedSimpArgs false
namespace Go.Proofs.Ytnkjbgoibmbmoaa.Plain

/-- Where a shard begins. -/
def lo (n s k : Nat) : Nat := n * k / s
/-! ### Numbers in so many bytes are in the order of their bytes -/
end Go.Proofs.Ytnkjbgoibmbmoaa.Plain
