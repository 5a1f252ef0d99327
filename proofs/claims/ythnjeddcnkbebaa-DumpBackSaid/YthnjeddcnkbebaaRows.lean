/-
  No cell of these rows narrows 'for every input' (looked for: loops, veiled, ifaces, maps, wideKeys, modest, calm, conditions, laid).
  DERIVED. THE GIVEN ROWS OF THIS SEAT. 4 by the template 'for every input the law returns true; each argument reads behind the call as it read before'; 0 by the template 'total and deterministic' (their statements: YthnjeddcnkbebaaTotals.lean).
  GIVEN WITH THE SEED: the statements are not yours to turn. If you find one false, say at which input.
  Laid BY PROGRAM, IN A SANDBOX (cutbox-rows.mjs): the forced cells as the released guide's own fill.sh prints them over the translation 85fd09bde66bfdf3… (all of the seat's roots in one cut). By AI agents, Wed Nov 11 2026. No macro, syntax, notation, axiom, sorry.
-/
import Derived.Test.YthnjeddcnkbebaaChecked
import GoSem.Claim
import GoSem.ClaimJoined
import GoSem.ClaimMapViews
import Derived.JoinedTies
import Derived.KernelRfl
namespace Go.Proofs.Ythnjeddcnkbebaa
/- THE CELL 'sum', in the pinned program and in every row, IS THE sha256 OF THE DUMP (.gsa) THAT YthnjeddcnkbebaaProg.lean LOADS. Nothing in Lean hashes anything: it is a label: what it is worth is what the hold of that sum in a sandbox is worth. -/
noncomputable def Try.pinned : Pinned := { name := "ythnjeddcnkbebaa", sum := "85fd09bde66bfdf37999ded8965488ebae051efbc2fc7d0b4f2be90d9f58c1c7", checked := Try.checked }
namespace Rows
def none {H : Type} : Left H := { results := [], args := [] }

/-- 'creellaw10.DumpTells': WHATEVER THE INPUT: true; the input reads as it did. -/
def dumpTellsSpec : ChangeSpec := { name := "dumpTells", fn := fun _ => fun
  | [d1, d2] => { results := [.lit (.bool true)], args := [d1, d2] }
  | _ => none }
def dumpTellsRow : OpenClaim := { program := "ythnjeddcnkbebaa", sum := "85fd09bde66bfdf37999ded8965488ebae051efbc2fc7d0b4f2be90d9f58c1c7", func := "creel/creellaw10.DumpTells", spec := "dumpTells", unfollowed := true, recurses := true, apart := false }
def DumpTellsSaid : Prop := dumpTellsRow.holds Try.pinned (OpenSpec.ofChange dumpTellsSpec)

/-- ITS FALSE NEIGHBOUR: 'it returns false'. Refute it at one input. -/
def dumpTellsWrong : ChangeSpec := { name := "dumpTells", fn := fun _ => fun
  | [d1, d2] => { results := [.lit (.bool false)], args := [d1, d2] }
  | _ => none }
def DumpTellsWrongFalsely : Prop := dumpTellsRow.holds Try.pinned (OpenSpec.ofChange dumpTellsWrong)

/-- 'creellaw10.DumpBack': WHATEVER THE INPUT: true; the input reads as it did. -/
def dumpBackSpec : ChangeSpec := { name := "dumpBack", fn := fun _ => fun
  | [d1, d2] => { results := [.lit (.bool true)], args := [d1, d2] }
  | _ => none }
def dumpBackRow : OpenClaim := { program := "ythnjeddcnkbebaa", sum := "85fd09bde66bfdf37999ded8965488ebae051efbc2fc7d0b4f2be90d9f58c1c7", func := "creel/creellaw10.DumpBack", spec := "dumpBack", unfollowed := true, recurses := true, apart := false }
def DumpBackSaid : Prop := dumpBackRow.holds Try.pinned (OpenSpec.ofChange dumpBackSpec)

/-- ITS FALSE NEIGHBOUR: 'it returns false'. Refute it at one input. -/
def dumpBackWrong : ChangeSpec := { name := "dumpBack", fn := fun _ => fun
  | [d1, d2] => { results := [.lit (.bool false)], args := [d1, d2] }
  | _ => none }
def DumpBackWrongFalsely : Prop := dumpBackRow.holds Try.pinned (OpenSpec.ofChange dumpBackWrong)

/-- 'creellaw10.DumpEnds': WHATEVER THE INPUT: true; the input reads as it did. -/
def dumpEndsSpec : ChangeSpec := { name := "dumpEnds", fn := fun _ => fun
  | [d1, d2] => { results := [.lit (.bool true)], args := [d1, d2] }
  | _ => none }
def dumpEndsRow : OpenClaim := { program := "ythnjeddcnkbebaa", sum := "85fd09bde66bfdf37999ded8965488ebae051efbc2fc7d0b4f2be90d9f58c1c7", func := "creel/creellaw10.DumpEnds", spec := "dumpEnds", unfollowed := true, recurses := true, apart := false }
def DumpEndsSaid : Prop := dumpEndsRow.holds Try.pinned (OpenSpec.ofChange dumpEndsSpec)

/-- ITS FALSE NEIGHBOUR: 'it returns false'. Refute it at one input. -/
def dumpEndsWrong : ChangeSpec := { name := "dumpEnds", fn := fun _ => fun
  | [d1, d2] => { results := [.lit (.bool false)], args := [d1, d2] }
  | _ => none }
def DumpEndsWrongFalsely : Prop := dumpEndsRow.holds Try.pinned (OpenSpec.ofChange dumpEndsWrong)

/-- 'creellaw10.DumpParts': WHATEVER THE INPUT: true; the input reads as it did. -/
def dumpPartsSpec : ChangeSpec := { name := "dumpParts", fn := fun _ => fun
  | [d1, d2] => { results := [.lit (.bool true)], args := [d1, d2] }
  | _ => none }
def dumpPartsRow : OpenClaim := { program := "ythnjeddcnkbebaa", sum := "85fd09bde66bfdf37999ded8965488ebae051efbc2fc7d0b4f2be90d9f58c1c7", func := "creel/creellaw10.DumpParts", spec := "dumpParts", unfollowed := true, recurses := true, apart := false }
def DumpPartsSaid : Prop := dumpPartsRow.holds Try.pinned (OpenSpec.ofChange dumpPartsSpec)

/-- ITS FALSE NEIGHBOUR: 'it returns false'. Refute it at one input. -/
def dumpPartsWrong : ChangeSpec := { name := "dumpParts", fn := fun _ => fun
  | [d1, d2] => { results := [.lit (.bool false)], args := [d1, d2] }
  | _ => none }
def DumpPartsWrongFalsely : Prop := dumpPartsRow.holds Try.pinned (OpenSpec.ofChange dumpPartsWrong)

/- THE SECOND FORM. 'bulk': how many values and letters a reading holds, each counted each time it is reached (what is shared counts as often as it is met; a slice's spare places count too). A statement '..UptoSaid' is the law's where the arguments, and the package variables that the reading takes, are together of bulk at most 1048576: NARROWER than '..Said'. Prove '..Said' where nothing that the law and all that it calls make is longer than what came in: it says more and counts as full. Else prove '..UptoSaid'. A law counts once. -/
mutual
def uptoBulk {H : Type} : DataW H → Nat
  | .lit (.string bytes) => bytes.length + 1
  | .lit _ => 1
  | .nil => 1
  | .ptr d => uptoBulk d + 1
  | .slice elems spare => uptoBulkAll elems + uptoBulkAll spare + 1
  | .agg parts => uptoBulkAll parts + 1
  | .iface _ d => uptoBulk d + 1
  | .map entries => uptoBulkEntries entries + 1
  | .held _ => 1
def uptoBulkAll {H : Type} : List (DataW H) → Nat
  | [] => 0
  | d :: r => uptoBulk d + uptoBulkAll r
def uptoBulkEntries {H : Type} : List (Lit × DataW H) → Nat
  | [] => 0
  | x :: r => uptoBulkEntry x + uptoBulkEntries r
def uptoBulkEntry {H : Type} : Lit × DataW H → Nat
  | (.string bytes, d) => bytes.length + uptoBulk d + 1
  | (_, d) => uptoBulk d + 1
 end
def uptoSmall : (H : Type) → List (DataW H) → Bool := fun _ ds => decide (uptoBulkAll ds ≤ 1048576)
def OpenSpec.upto (s : _root_.Go.ChangeSpec) : _root_.Go.OpenSpec := { _root_.Go.OpenSpec.ofChange s with cond := some uptoSmall }

/-- 'creellaw10.DumpTells', WHERE WHAT IT READS IS OF BULK AT MOST 1048576: true; the input reads as it did. -/
def dumpTellsUptoRow : OpenClaim := { program := "ythnjeddcnkbebaa", sum := "85fd09bde66bfdf37999ded8965488ebae051efbc2fc7d0b4f2be90d9f58c1c7", func := "creel/creellaw10.DumpTells", spec := "dumpTells", unfollowed := true, recurses := true, apart := false, narrowed := true }
def DumpTellsUptoSaid : Prop := dumpTellsUptoRow.holds Try.pinned (OpenSpec.upto dumpTellsSpec)

/-- 'creellaw10.DumpBack', WHERE WHAT IT READS IS OF BULK AT MOST 1048576: true; the input reads as it did. -/
def dumpBackUptoRow : OpenClaim := { program := "ythnjeddcnkbebaa", sum := "85fd09bde66bfdf37999ded8965488ebae051efbc2fc7d0b4f2be90d9f58c1c7", func := "creel/creellaw10.DumpBack", spec := "dumpBack", unfollowed := true, recurses := true, apart := false, narrowed := true }
def DumpBackUptoSaid : Prop := dumpBackUptoRow.holds Try.pinned (OpenSpec.upto dumpBackSpec)

/-- 'creellaw10.DumpEnds', WHERE WHAT IT READS IS OF BULK AT MOST 1048576: true; the input reads as it did. -/
def dumpEndsUptoRow : OpenClaim := { program := "ythnjeddcnkbebaa", sum := "85fd09bde66bfdf37999ded8965488ebae051efbc2fc7d0b4f2be90d9f58c1c7", func := "creel/creellaw10.DumpEnds", spec := "dumpEnds", unfollowed := true, recurses := true, apart := false, narrowed := true }
def DumpEndsUptoSaid : Prop := dumpEndsUptoRow.holds Try.pinned (OpenSpec.upto dumpEndsSpec)

/-- 'creellaw10.DumpParts', WHERE WHAT IT READS IS OF BULK AT MOST 1048576: true; the input reads as it did. -/
def dumpPartsUptoRow : OpenClaim := { program := "ythnjeddcnkbebaa", sum := "85fd09bde66bfdf37999ded8965488ebae051efbc2fc7d0b4f2be90d9f58c1c7", func := "creel/creellaw10.DumpParts", spec := "dumpParts", unfollowed := true, recurses := true, apart := false, narrowed := true }
def DumpPartsUptoSaid : Prop := dumpPartsUptoRow.holds Try.pinned (OpenSpec.upto dumpPartsSpec)

end Rows
end Go.Proofs.Ythnjeddcnkbebaa
