/-
  No cell of these rows narrows 'for every input' (looked for: loops, veiled, ifaces, maps, wideKeys, modest, calm, conditions, laid).
  DERIVED. THE GIVEN ROWS OF THIS SEAT. 6 by the template 'for every input the law returns true; each argument reads behind the call as it read before'; 0 by the template 'total and deterministic' (their statements: YtnkjbgoibmbmoaaTotals.lean).
  GIVEN WITH THE SEED: the statements are not yours to turn. If you find one false, say at which input.
  Laid BY PROGRAM, IN A SANDBOX (cutbox-rows.mjs): the forced cells as the released guide's own fill.sh prints them over the translation de31c64854d69ef8… (all of the seat's roots in one cut). By AI agents, Wed Nov 11 2026. No macro, syntax, notation, axiom, sorry.
-/
import Derived.Test.YtnkjbgoibmbmoaaChecked
import GoSem.Claim
import GoSem.ClaimJoined
import GoSem.ClaimMapViews
import Derived.JoinedTies
import Derived.KernelRfl
namespace Go.Proofs.Ytnkjbgoibmbmoaa
/- THE CELL 'sum', in the pinned program and in every row, IS THE sha256 OF THE DUMP (.gsa) THAT YtnkjbgoibmbmoaaProg.lean LOADS. Nothing in Lean hashes anything: it is a label: what it is worth is what the hold of that sum in a sandbox is worth. -/
noncomputable def Try.pinned : Pinned := { name := "ytnkjbgoibmbmoaa", sum := "de31c64854d69ef89fd18d6ae549e09fa1552f8fdedb2405f7cb994ebe6107a7", checked := Try.checked }
namespace Rows
def none {H : Type} : Left H := { results := [], args := [] }

/-- 'creellaw18.ShardBuilds': WHATEVER THE INPUT: true; the input reads as it did. -/
def shardBuildsSpec : ChangeSpec := { name := "shardBuilds", fn := fun _ => fun
  | [d1, d2] => { results := [.lit (.bool true)], args := [d1, d2] }
  | _ => none }
def shardBuildsRow : OpenClaim := { program := "ytnkjbgoibmbmoaa", sum := "de31c64854d69ef89fd18d6ae549e09fa1552f8fdedb2405f7cb994ebe6107a7", func := "creel/creellaw18.ShardBuilds", spec := "shardBuilds", unfollowed := true, recurses := true, apart := false }
def ShardBuildsSaid : Prop := shardBuildsRow.holds Try.pinned (OpenSpec.ofChange shardBuildsSpec)

/-- ITS FALSE NEIGHBOUR: 'it returns false'. Refute it at one input. -/
def shardBuildsWrong : ChangeSpec := { name := "shardBuilds", fn := fun _ => fun
  | [d1, d2] => { results := [.lit (.bool false)], args := [d1, d2] }
  | _ => none }
def ShardBuildsWrongFalsely : Prop := shardBuildsRow.holds Try.pinned (OpenSpec.ofChange shardBuildsWrong)

/-- 'creellaw18.ShardOwn': WHATEVER THE INPUT: true; the input reads as it did. -/
def shardOwnSpec : ChangeSpec := { name := "shardOwn", fn := fun _ => fun
  | [d1, d2, d3] => { results := [.lit (.bool true)], args := [d1, d2, d3] }
  | _ => none }
def shardOwnRow : OpenClaim := { program := "ytnkjbgoibmbmoaa", sum := "de31c64854d69ef89fd18d6ae549e09fa1552f8fdedb2405f7cb994ebe6107a7", func := "creel/creellaw18.ShardOwn", spec := "shardOwn", unfollowed := true, recurses := true, apart := false }
def ShardOwnSaid : Prop := shardOwnRow.holds Try.pinned (OpenSpec.ofChange shardOwnSpec)

/-- ITS FALSE NEIGHBOUR: 'it returns false'. Refute it at one input. -/
def shardOwnWrong : ChangeSpec := { name := "shardOwn", fn := fun _ => fun
  | [d1, d2, d3] => { results := [.lit (.bool false)], args := [d1, d2, d3] }
  | _ => none }
def ShardOwnWrongFalsely : Prop := shardOwnRow.holds Try.pinned (OpenSpec.ofChange shardOwnWrong)

/-- 'creellaw18.ShardParts': WHATEVER THE INPUT: true; the input reads as it did. -/
def shardPartsSpec : ChangeSpec := { name := "shardParts", fn := fun _ => fun
  | [d1, d2] => { results := [.lit (.bool true)], args := [d1, d2] }
  | _ => none }
def shardPartsRow : OpenClaim := { program := "ytnkjbgoibmbmoaa", sum := "de31c64854d69ef89fd18d6ae549e09fa1552f8fdedb2405f7cb994ebe6107a7", func := "creel/creellaw18.ShardParts", spec := "shardParts", unfollowed := true, recurses := true, apart := false }
def ShardPartsSaid : Prop := shardPartsRow.holds Try.pinned (OpenSpec.ofChange shardPartsSpec)

/-- ITS FALSE NEIGHBOUR: 'it returns false'. Refute it at one input. -/
def shardPartsWrong : ChangeSpec := { name := "shardParts", fn := fun _ => fun
  | [d1, d2] => { results := [.lit (.bool false)], args := [d1, d2] }
  | _ => none }
def ShardPartsWrongFalsely : Prop := shardPartsRow.holds Try.pinned (OpenSpec.ofChange shardPartsWrong)

/-- 'creellaw18.ShardOpens': WHATEVER THE INPUT: true; the input reads as it did. -/
def shardOpensSpec : ChangeSpec := { name := "shardOpens", fn := fun _ => fun
  | [d1, d2, d3] => { results := [.lit (.bool true)], args := [d1, d2, d3] }
  | _ => none }
def shardOpensRow : OpenClaim := { program := "ytnkjbgoibmbmoaa", sum := "de31c64854d69ef89fd18d6ae549e09fa1552f8fdedb2405f7cb994ebe6107a7", func := "creel/creellaw18.ShardOpens", spec := "shardOpens", unfollowed := true, recurses := true, apart := false }
def ShardOpensSaid : Prop := shardOpensRow.holds Try.pinned (OpenSpec.ofChange shardOpensSpec)

/-- ITS FALSE NEIGHBOUR: 'it returns false'. Refute it at one input. -/
def shardOpensWrong : ChangeSpec := { name := "shardOpens", fn := fun _ => fun
  | [d1, d2, d3] => { results := [.lit (.bool false)], args := [d1, d2, d3] }
  | _ => none }
def ShardOpensWrongFalsely : Prop := shardOpensRow.holds Try.pinned (OpenSpec.ofChange shardOpensWrong)

/-- 'creellaw18.ShardBack': WHATEVER THE INPUT: true; the input reads as it did. -/
def shardBackSpec : ChangeSpec := { name := "shardBack", fn := fun _ => fun
  | [d1, d2, d3] => { results := [.lit (.bool true)], args := [d1, d2, d3] }
  | _ => none }
def shardBackRow : OpenClaim := { program := "ytnkjbgoibmbmoaa", sum := "de31c64854d69ef89fd18d6ae549e09fa1552f8fdedb2405f7cb994ebe6107a7", func := "creel/creellaw18.ShardBack", spec := "shardBack", unfollowed := true, recurses := true, apart := false }
def ShardBackSaid : Prop := shardBackRow.holds Try.pinned (OpenSpec.ofChange shardBackSpec)

/-- ITS FALSE NEIGHBOUR: 'it returns false'. Refute it at one input. -/
def shardBackWrong : ChangeSpec := { name := "shardBack", fn := fun _ => fun
  | [d1, d2, d3] => { results := [.lit (.bool false)], args := [d1, d2, d3] }
  | _ => none }
def ShardBackWrongFalsely : Prop := shardBackRow.holds Try.pinned (OpenSpec.ofChange shardBackWrong)

/-- 'creellaw18.ShardNil': WHATEVER THE INPUT: true; the input reads as it did. -/
def shardNilSpec : ChangeSpec := { name := "shardNil", fn := fun _ => fun
  | [d1, d2] => { results := [.lit (.bool true)], args := [d1, d2] }
  | _ => none }
def shardNilRow : OpenClaim := { program := "ytnkjbgoibmbmoaa", sum := "de31c64854d69ef89fd18d6ae549e09fa1552f8fdedb2405f7cb994ebe6107a7", func := "creel/creellaw18.ShardNil", spec := "shardNil", unfollowed := true, recurses := true, apart := false }
def ShardNilSaid : Prop := shardNilRow.holds Try.pinned (OpenSpec.ofChange shardNilSpec)

/-- ITS FALSE NEIGHBOUR: 'it returns false'. Refute it at one input. -/
def shardNilWrong : ChangeSpec := { name := "shardNil", fn := fun _ => fun
  | [d1, d2] => { results := [.lit (.bool false)], args := [d1, d2] }
  | _ => none }
def ShardNilWrongFalsely : Prop := shardNilRow.holds Try.pinned (OpenSpec.ofChange shardNilWrong)

/- THE SECOND FORM. 'bulk': how many values and letters a reading holds, each counted each time it is reached (what is shared counts as often as it is met; a slice's spare places count too). A statement '..UptoSaid' is the law's where the arguments, and the package variables that the reading takes, are together of bulk at most 1048576: NARROWER than '..Said'. Prove '..Said' where nothing that the law and all that it calls make is longer than what came in: it says more and counts as full. Else prove '..UptoSaid'. A law counts once. -/
mutual
def uptoBulk {H : Type} : DataW H → Nat
  | .lit (.string bytes) => bytes.length + 1
  | .lit _ => 1
  | .nil => 1
  | .ptr d => uptoBulk d + 1
  | .slice elems spare => uptoBulkAll elems + uptoBulkAll spare + 1
  | .agg parts => uptoBulkAll parts + 1
  | .iface _ d => uptoBulk d + 1
  | .map entries => uptoBulkEntries entries + 1
  | .held _ => 1
def uptoBulkAll {H : Type} : List (DataW H) → Nat
  | [] => 0
  | d :: r => uptoBulk d + uptoBulkAll r
def uptoBulkEntries {H : Type} : List (Lit × DataW H) → Nat
  | [] => 0
  | x :: r => uptoBulkEntry x + uptoBulkEntries r
def uptoBulkEntry {H : Type} : Lit × DataW H → Nat
  | (.string bytes, d) => bytes.length + uptoBulk d + 1
  | (_, d) => uptoBulk d + 1
 end
def uptoSmall : (H : Type) → List (DataW H) → Bool := fun _ ds => decide (uptoBulkAll ds ≤ 1048576)
def OpenSpec.upto (s : _root_.Go.ChangeSpec) : _root_.Go.OpenSpec := { _root_.Go.OpenSpec.ofChange s with cond := some uptoSmall }

/-- 'creellaw18.ShardBuilds', WHERE WHAT IT READS IS OF BULK AT MOST 1048576: true; the input reads as it did. -/
def shardBuildsUptoRow : OpenClaim := { program := "ytnkjbgoibmbmoaa", sum := "de31c64854d69ef89fd18d6ae549e09fa1552f8fdedb2405f7cb994ebe6107a7", func := "creel/creellaw18.ShardBuilds", spec := "shardBuilds", unfollowed := true, recurses := true, apart := false, narrowed := true }
def ShardBuildsUptoSaid : Prop := shardBuildsUptoRow.holds Try.pinned (OpenSpec.upto shardBuildsSpec)

/-- 'creellaw18.ShardOwn', WHERE WHAT IT READS IS OF BULK AT MOST 1048576: true; the input reads as it did. -/
def shardOwnUptoRow : OpenClaim := { program := "ytnkjbgoibmbmoaa", sum := "de31c64854d69ef89fd18d6ae549e09fa1552f8fdedb2405f7cb994ebe6107a7", func := "creel/creellaw18.ShardOwn", spec := "shardOwn", unfollowed := true, recurses := true, apart := false, narrowed := true }
def ShardOwnUptoSaid : Prop := shardOwnUptoRow.holds Try.pinned (OpenSpec.upto shardOwnSpec)

/-- 'creellaw18.ShardParts', WHERE WHAT IT READS IS OF BULK AT MOST 1048576: true; the input reads as it did. -/
def shardPartsUptoRow : OpenClaim := { program := "ytnkjbgoibmbmoaa", sum := "de31c64854d69ef89fd18d6ae549e09fa1552f8fdedb2405f7cb994ebe6107a7", func := "creel/creellaw18.ShardParts", spec := "shardParts", unfollowed := true, recurses := true, apart := false, narrowed := true }
def ShardPartsUptoSaid : Prop := shardPartsUptoRow.holds Try.pinned (OpenSpec.upto shardPartsSpec)

/-- 'creellaw18.ShardOpens', WHERE WHAT IT READS IS OF BULK AT MOST 1048576: true; the input reads as it did. -/
def shardOpensUptoRow : OpenClaim := { program := "ytnkjbgoibmbmoaa", sum := "de31c64854d69ef89fd18d6ae549e09fa1552f8fdedb2405f7cb994ebe6107a7", func := "creel/creellaw18.ShardOpens", spec := "shardOpens", unfollowed := true, recurses := true, apart := false, narrowed := true }
def ShardOpensUptoSaid : Prop := shardOpensUptoRow.holds Try.pinned (OpenSpec.upto shardOpensSpec)

/-- 'creellaw18.ShardBack', WHERE WHAT IT READS IS OF BULK AT MOST 1048576: true; the input reads as it did. -/
def shardBackUptoRow : OpenClaim := { program := "ytnkjbgoibmbmoaa", sum := "de31c64854d69ef89fd18d6ae549e09fa1552f8fdedb2405f7cb994ebe6107a7", func := "creel/creellaw18.ShardBack", spec := "shardBack", unfollowed := true, recurses := true, apart := false, narrowed := true }
def ShardBackUptoSaid : Prop := shardBackUptoRow.holds Try.pinned (OpenSpec.upto shardBackSpec)

/-- 'creellaw18.ShardNil', WHERE WHAT IT READS IS OF BULK AT MOST 1048576: true; the input reads as it did. -/
def shardNilUptoRow : OpenClaim := { program := "ytnkjbgoibmbmoaa", sum := "de31c64854d69ef89fd18d6ae549e09fa1552f8fdedb2405f7cb994ebe6107a7", func := "creel/creellaw18.ShardNil", spec := "shardNil", unfollowed := true, recurses := true, apart := false, narrowed := true }
def ShardNilUptoSaid : Prop := shardNilUptoRow.holds Try.pinned (OpenSpec.upto shardNilSpec)

end Rows
end Go.Proofs.Ytnkjbgoibmbmoaa
