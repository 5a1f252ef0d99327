/-
  No cell of these rows narrows 'for every input' (looked for: loops, veiled, ifaces, maps, wideKeys, modest, calm, conditions, laid).
  DERIVED. THE GIVEN ROWS OF THIS SEAT. 6 by the template 'for every input the law returns true; each argument reads behind the call as it read before'; 0 by the template 'total and deterministic' (their statements: YtaiechbdcddalaaTotals.lean).
  GIVEN WITH THE SEED: the statements are not yours to turn. If you find one false, say at which input.
  Laid BY PROGRAM, IN A SANDBOX (cutbox-rows.mjs): the forced cells as the released guide's own fill.sh prints them over the translation acc9b05ff9c7886c… (all of the seat's roots in one cut). By AI agents, Wed Nov 11 2026. No macro, syntax, notation, axiom, sorry.
-/
import Derived.Test.YtaiechbdcddalaaChecked
import GoSem.Claim
import GoSem.ClaimJoined
import GoSem.ClaimMapViews
import Derived.JoinedTies
import Derived.KernelRfl
namespace Go.Proofs.Ytaiechbdcddalaa
/- THE CELL 'sum', in the pinned program and in every row, IS THE sha256 OF THE DUMP (.gsa) THAT YtaiechbdcddalaaProg.lean LOADS. Nothing in Lean hashes anything: it is a label: what it is worth is what the hold of that sum in a sandbox is worth. -/
noncomputable def Try.pinned : Pinned := { name := "ytaiechbdcddalaa", sum := "acc9b05ff9c7886cfba711f2248b717c8947654b146ae81fbf455dfaccc19bfb", checked := Try.checked }
namespace Rows
def none {H : Type} : Left H := { results := [], args := [] }

/-- 'creellaw16.DictBuilds': WHATEVER THE INPUT: true; the input reads as it did. -/
def dictBuildsSpec : ChangeSpec := { name := "dictBuilds", fn := fun _ => fun
  | [d] => { results := [.lit (.bool true)], args := [d] }
  | _ => none }
def dictBuildsRow : OpenClaim := { program := "ytaiechbdcddalaa", sum := "acc9b05ff9c7886cfba711f2248b717c8947654b146ae81fbf455dfaccc19bfb", func := "creel/creellaw16.DictBuilds", spec := "dictBuilds", inPlace := ["internal/bytealg.Compare"], unfollowed := true, recurses := true, apart := false }
def DictBuildsSaid : Prop := dictBuildsRow.holds Try.pinned (OpenSpec.ofChange dictBuildsSpec)

/-- ITS FALSE NEIGHBOUR: 'it returns false'. Refute it at one input. -/
def dictBuildsWrong : ChangeSpec := { name := "dictBuilds", fn := fun _ => fun
  | [d] => { results := [.lit (.bool false)], args := [d] }
  | _ => none }
def DictBuildsWrongFalsely : Prop := dictBuildsRow.holds Try.pinned (OpenSpec.ofChange dictBuildsWrong)

/-- 'creellaw16.DictOpens': WHATEVER THE INPUT: true; the input reads as it did. -/
def dictOpensSpec : ChangeSpec := { name := "dictOpens", fn := fun _ => fun
  | [d1, d2, d3] => { results := [.lit (.bool true)], args := [d1, d2, d3] }
  | _ => none }
def dictOpensRow : OpenClaim := { program := "ytaiechbdcddalaa", sum := "acc9b05ff9c7886cfba711f2248b717c8947654b146ae81fbf455dfaccc19bfb", func := "creel/creellaw16.DictOpens", spec := "dictOpens", inPlace := ["internal/bytealg.Compare"], unfollowed := true, recurses := true, apart := false }
def DictOpensSaid : Prop := dictOpensRow.holds Try.pinned (OpenSpec.ofChange dictOpensSpec)

/-- ITS FALSE NEIGHBOUR: 'it returns false'. Refute it at one input. -/
def dictOpensWrong : ChangeSpec := { name := "dictOpens", fn := fun _ => fun
  | [d1, d2, d3] => { results := [.lit (.bool false)], args := [d1, d2, d3] }
  | _ => none }
def DictOpensWrongFalsely : Prop := dictOpensRow.holds Try.pinned (OpenSpec.ofChange dictOpensWrong)

/-- 'creellaw16.DictBack': WHATEVER THE INPUT: true; the input reads as it did. -/
def dictBackSpec : ChangeSpec := { name := "dictBack", fn := fun _ => fun
  | [d1, d2] => { results := [.lit (.bool true)], args := [d1, d2] }
  | _ => none }
def dictBackRow : OpenClaim := { program := "ytaiechbdcddalaa", sum := "acc9b05ff9c7886cfba711f2248b717c8947654b146ae81fbf455dfaccc19bfb", func := "creel/creellaw16.DictBack", spec := "dictBack", inPlace := ["internal/bytealg.Compare"], unfollowed := true, recurses := true, apart := false }
def DictBackSaid : Prop := dictBackRow.holds Try.pinned (OpenSpec.ofChange dictBackSpec)

/-- ITS FALSE NEIGHBOUR: 'it returns false'. Refute it at one input. -/
def dictBackWrong : ChangeSpec := { name := "dictBack", fn := fun _ => fun
  | [d1, d2] => { results := [.lit (.bool false)], args := [d1, d2] }
  | _ => none }
def DictBackWrongFalsely : Prop := dictBackRow.holds Try.pinned (OpenSpec.ofChange dictBackWrong)

/-- 'creellaw16.DictCut': WHATEVER THE INPUT: true; the input reads as it did. -/
def dictCutSpec : ChangeSpec := { name := "dictCut", fn := fun _ => fun
  | [d1, d2] => { results := [.lit (.bool true)], args := [d1, d2] }
  | _ => none }
def dictCutRow : OpenClaim := { program := "ytaiechbdcddalaa", sum := "acc9b05ff9c7886cfba711f2248b717c8947654b146ae81fbf455dfaccc19bfb", func := "creel/creellaw16.DictCut", spec := "dictCut", inPlace := ["internal/bytealg.Compare"], unfollowed := true, recurses := true, apart := false }
def DictCutSaid : Prop := dictCutRow.holds Try.pinned (OpenSpec.ofChange dictCutSpec)

/-- ITS FALSE NEIGHBOUR: 'it returns false'. Refute it at one input. -/
def dictCutWrong : ChangeSpec := { name := "dictCut", fn := fun _ => fun
  | [d1, d2] => { results := [.lit (.bool false)], args := [d1, d2] }
  | _ => none }
def DictCutWrongFalsely : Prop := dictCutRow.holds Try.pinned (OpenSpec.ofChange dictCutWrong)

/-- 'creellaw16.DictNil': WHATEVER THE INPUT: true; the input reads as it did. -/
def dictNilSpec : ChangeSpec := { name := "dictNil", fn := fun _ => fun
  | [d1, d2] => { results := [.lit (.bool true)], args := [d1, d2] }
  | _ => none }
def dictNilRow : OpenClaim := { program := "ytaiechbdcddalaa", sum := "acc9b05ff9c7886cfba711f2248b717c8947654b146ae81fbf455dfaccc19bfb", func := "creel/creellaw16.DictNil", spec := "dictNil", inPlace := ["internal/bytealg.Compare"], unfollowed := true, recurses := true, apart := false }
def DictNilSaid : Prop := dictNilRow.holds Try.pinned (OpenSpec.ofChange dictNilSpec)

/-- ITS FALSE NEIGHBOUR: 'it returns false'. Refute it at one input. -/
def dictNilWrong : ChangeSpec := { name := "dictNil", fn := fun _ => fun
  | [d1, d2] => { results := [.lit (.bool false)], args := [d1, d2] }
  | _ => none }
def DictNilWrongFalsely : Prop := dictNilRow.holds Try.pinned (OpenSpec.ofChange dictNilWrong)

/-- 'creellaw16.DictOrder': WHATEVER THE INPUT: true; the input reads as it did. -/
def dictOrderSpec : ChangeSpec := { name := "dictOrder", fn := fun _ => fun
  | [d1, d2, d3, d4] => { results := [.lit (.bool true)], args := [d1, d2, d3, d4] }
  | _ => none }
def dictOrderRow : OpenClaim := { program := "ytaiechbdcddalaa", sum := "acc9b05ff9c7886cfba711f2248b717c8947654b146ae81fbf455dfaccc19bfb", func := "creel/creellaw16.DictOrder", spec := "dictOrder", inPlace := ["internal/bytealg.Compare"], unfollowed := true, recurses := true, apart := false }
def DictOrderSaid : Prop := dictOrderRow.holds Try.pinned (OpenSpec.ofChange dictOrderSpec)

/-- ITS FALSE NEIGHBOUR: 'it returns false'. Refute it at one input. -/
def dictOrderWrong : ChangeSpec := { name := "dictOrder", fn := fun _ => fun
  | [d1, d2, d3, d4] => { results := [.lit (.bool false)], args := [d1, d2, d3, d4] }
  | _ => none }
def DictOrderWrongFalsely : Prop := dictOrderRow.holds Try.pinned (OpenSpec.ofChange dictOrderWrong)

/- THE SECOND FORM. 'bulk': how many values and letters a reading holds, each counted each time it is reached (what is shared counts as often as it is met; a slice's spare places count too). A statement '..UptoSaid' is the law's where the arguments, and the package variables that the reading takes, are together of bulk at most 1048576: NARROWER than '..Said'. Prove '..Said' where nothing that the law and all that it calls make is longer than what came in: it says more and counts as full. Else prove '..UptoSaid'. A law counts once. -/
mutual
def uptoBulk {H : Type} : DataW H → Nat
  | .lit (.string bytes) => bytes.length + 1
  | .lit _ => 1
  | .nil => 1
  | .ptr d => uptoBulk d + 1
  | .slice elems spare => uptoBulkAll elems + uptoBulkAll spare + 1
  | .agg parts => uptoBulkAll parts + 1
  | .iface _ d => uptoBulk d + 1
  | .map entries => uptoBulkEntries entries + 1
  | .held _ => 1
def uptoBulkAll {H : Type} : List (DataW H) → Nat
  | [] => 0
  | d :: r => uptoBulk d + uptoBulkAll r
def uptoBulkEntries {H : Type} : List (Lit × DataW H) → Nat
  | [] => 0
  | x :: r => uptoBulkEntry x + uptoBulkEntries r
def uptoBulkEntry {H : Type} : Lit × DataW H → Nat
  | (.string bytes, d) => bytes.length + uptoBulk d + 1
  | (_, d) => uptoBulk d + 1
 end
def uptoSmall : (H : Type) → List (DataW H) → Bool := fun _ ds => decide (uptoBulkAll ds ≤ 1048576)
def OpenSpec.upto (s : _root_.Go.ChangeSpec) : _root_.Go.OpenSpec := { _root_.Go.OpenSpec.ofChange s with cond := some uptoSmall }

/-- 'creellaw16.DictBuilds', WHERE WHAT IT READS IS OF BULK AT MOST 1048576: true; the input reads as it did. -/
def dictBuildsUptoRow : OpenClaim := { program := "ytaiechbdcddalaa", sum := "acc9b05ff9c7886cfba711f2248b717c8947654b146ae81fbf455dfaccc19bfb", func := "creel/creellaw16.DictBuilds", spec := "dictBuilds", inPlace := ["internal/bytealg.Compare"], unfollowed := true, recurses := true, apart := false, narrowed := true }
def DictBuildsUptoSaid : Prop := dictBuildsUptoRow.holds Try.pinned (OpenSpec.upto dictBuildsSpec)

/-- 'creellaw16.DictOpens', WHERE WHAT IT READS IS OF BULK AT MOST 1048576: true; the input reads as it did. -/
def dictOpensUptoRow : OpenClaim := { program := "ytaiechbdcddalaa", sum := "acc9b05ff9c7886cfba711f2248b717c8947654b146ae81fbf455dfaccc19bfb", func := "creel/creellaw16.DictOpens", spec := "dictOpens", inPlace := ["internal/bytealg.Compare"], unfollowed := true, recurses := true, apart := false, narrowed := true }
def DictOpensUptoSaid : Prop := dictOpensUptoRow.holds Try.pinned (OpenSpec.upto dictOpensSpec)

/-- 'creellaw16.DictBack', WHERE WHAT IT READS IS OF BULK AT MOST 1048576: true; the input reads as it did. -/
def dictBackUptoRow : OpenClaim := { program := "ytaiechbdcddalaa", sum := "acc9b05ff9c7886cfba711f2248b717c8947654b146ae81fbf455dfaccc19bfb", func := "creel/creellaw16.DictBack", spec := "dictBack", inPlace := ["internal/bytealg.Compare"], unfollowed := true, recurses := true, apart := false, narrowed := true }
def DictBackUptoSaid : Prop := dictBackUptoRow.holds Try.pinned (OpenSpec.upto dictBackSpec)

/-- 'creellaw16.DictCut', WHERE WHAT IT READS IS OF BULK AT MOST 1048576: true; the input reads as it did. -/
def dictCutUptoRow : OpenClaim := { program := "ytaiechbdcddalaa", sum := "acc9b05ff9c7886cfba711f2248b717c8947654b146ae81fbf455dfaccc19bfb", func := "creel/creellaw16.DictCut", spec := "dictCut", inPlace := ["internal/bytealg.Compare"], unfollowed := true, recurses := true, apart := false, narrowed := true }
def DictCutUptoSaid : Prop := dictCutUptoRow.holds Try.pinned (OpenSpec.upto dictCutSpec)

/-- 'creellaw16.DictNil', WHERE WHAT IT READS IS OF BULK AT MOST 1048576: true; the input reads as it did. -/
def dictNilUptoRow : OpenClaim := { program := "ytaiechbdcddalaa", sum := "acc9b05ff9c7886cfba711f2248b717c8947654b146ae81fbf455dfaccc19bfb", func := "creel/creellaw16.DictNil", spec := "dictNil", inPlace := ["internal/bytealg.Compare"], unfollowed := true, recurses := true, apart := false, narrowed := true }
def DictNilUptoSaid : Prop := dictNilUptoRow.holds Try.pinned (OpenSpec.upto dictNilSpec)

/-- 'creellaw16.DictOrder', WHERE WHAT IT READS IS OF BULK AT MOST 1048576: true; the input reads as it did. -/
def dictOrderUptoRow : OpenClaim := { program := "ytaiechbdcddalaa", sum := "acc9b05ff9c7886cfba711f2248b717c8947654b146ae81fbf455dfaccc19bfb", func := "creel/creellaw16.DictOrder", spec := "dictOrder", inPlace := ["internal/bytealg.Compare"], unfollowed := true, recurses := true, apart := false, narrowed := true }
def DictOrderUptoSaid : Prop := dictOrderUptoRow.holds Try.pinned (OpenSpec.upto dictOrderSpec)

end Rows
end Go.Proofs.Ytaiechbdcddalaa
