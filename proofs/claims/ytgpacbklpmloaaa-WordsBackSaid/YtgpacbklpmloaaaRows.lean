/-
  No cell of these rows narrows 'for every input' (looked for: loops, veiled, ifaces, maps, wideKeys, modest, calm, conditions, laid).
  DERIVED. THE GIVEN ROWS OF THIS SEAT. 11 by the template 'for every input the law returns true; each argument reads behind the call as it read before'; 0 by the template 'total and deterministic' (their statements: YtgpacbklpmloaaaTotals.lean).
  GIVEN WITH THE SEED: the statements are not yours to turn. If you find one false, say at which input.
  Laid BY PROGRAM, IN A SANDBOX (cutbox-rows.mjs): the forced cells as the released guide's own fill.sh prints them over the translation 211c48380b3a9070… (all of the seat's roots in one cut). By AI agents, Wed Nov 11 2026. No macro, syntax, notation, axiom, sorry.
-/
import Derived.Test.YtgpacbklpmloaaaChecked
import GoSem.Claim
import GoSem.ClaimJoined
import GoSem.ClaimMapViews
import Derived.JoinedTies
import Derived.KernelRfl
namespace Go.Proofs.Ytgpacbklpmloaaa
/- THE CELL 'sum', in the pinned program and in every row, IS THE sha256 OF THE DUMP (.gsa) THAT YtgpacbklpmloaaaProg.lean LOADS. Nothing in Lean hashes anything: it is a label: what it is worth is what the hold of that sum in a sandbox is worth. -/
noncomputable def Try.pinned : Pinned := { name := "ytgpacbklpmloaaa", sum := "211c48380b3a9070c8c0e94330b37e61a7e33f884ed64e7ec6faa0a3c9ad6e46", checked := Try.checked }
namespace Rows
def none {H : Type} : Left H := { results := [], args := [] }

/-- 'creellaw17.GapsPuts': WHATEVER THE INPUT: true; the input reads as it did. -/
def gapsPutsSpec : ChangeSpec := { name := "gapsPuts", fn := fun _ => fun
  | [d1, d2] => { results := [.lit (.bool true)], args := [d1, d2] }
  | _ => none }
def gapsPutsRow : OpenClaim := { program := "ytgpacbklpmloaaa", sum := "211c48380b3a9070c8c0e94330b37e61a7e33f884ed64e7ec6faa0a3c9ad6e46", func := "creel/creellaw17.GapsPuts", spec := "gapsPuts", apart := false }
def GapsPutsSaid : Prop := gapsPutsRow.holds Try.pinned (OpenSpec.ofChange gapsPutsSpec)

/-- ITS FALSE NEIGHBOUR: 'it returns false'. Refute it at one input. -/
def gapsPutsWrong : ChangeSpec := { name := "gapsPuts", fn := fun _ => fun
  | [d1, d2] => { results := [.lit (.bool false)], args := [d1, d2] }
  | _ => none }
def GapsPutsWrongFalsely : Prop := gapsPutsRow.holds Try.pinned (OpenSpec.ofChange gapsPutsWrong)

/-- 'creellaw17.GapsNear': WHATEVER THE INPUT: true; the input reads as it did. -/
def gapsNearSpec : ChangeSpec := { name := "gapsNear", fn := fun _ => fun
  | [d1, d2, d3] => { results := [.lit (.bool true)], args := [d1, d2, d3] }
  | _ => none }
def gapsNearRow : OpenClaim := { program := "ytgpacbklpmloaaa", sum := "211c48380b3a9070c8c0e94330b37e61a7e33f884ed64e7ec6faa0a3c9ad6e46", func := "creel/creellaw17.GapsNear", spec := "gapsNear", apart := false }
def GapsNearSaid : Prop := gapsNearRow.holds Try.pinned (OpenSpec.ofChange gapsNearSpec)

/-- ITS FALSE NEIGHBOUR: 'it returns false'. Refute it at one input. -/
def gapsNearWrong : ChangeSpec := { name := "gapsNear", fn := fun _ => fun
  | [d1, d2, d3] => { results := [.lit (.bool false)], args := [d1, d2, d3] }
  | _ => none }
def GapsNearWrongFalsely : Prop := gapsNearRow.holds Try.pinned (OpenSpec.ofChange gapsNearWrong)

/-- 'creellaw17.GapsOrder': WHATEVER THE INPUT: true; the input reads as it did. -/
def gapsOrderSpec : ChangeSpec := { name := "gapsOrder", fn := fun _ => fun
  | [d1, d2] => { results := [.lit (.bool true)], args := [d1, d2] }
  | _ => none }
def gapsOrderRow : OpenClaim := { program := "ytgpacbklpmloaaa", sum := "211c48380b3a9070c8c0e94330b37e61a7e33f884ed64e7ec6faa0a3c9ad6e46", func := "creel/creellaw17.GapsOrder", spec := "gapsOrder", apart := false }
def GapsOrderSaid : Prop := gapsOrderRow.holds Try.pinned (OpenSpec.ofChange gapsOrderSpec)

/-- ITS FALSE NEIGHBOUR: 'it returns false'. Refute it at one input. -/
def gapsOrderWrong : ChangeSpec := { name := "gapsOrder", fn := fun _ => fun
  | [d1, d2] => { results := [.lit (.bool false)], args := [d1, d2] }
  | _ => none }
def GapsOrderWrongFalsely : Prop := gapsOrderRow.holds Try.pinned (OpenSpec.ofChange gapsOrderWrong)

/-- 'creellaw17.GapsTakes': WHATEVER THE INPUT: true; the input reads as it did. -/
def gapsTakesSpec : ChangeSpec := { name := "gapsTakes", fn := fun _ => fun
  | [d1, d2] => { results := [.lit (.bool true)], args := [d1, d2] }
  | _ => none }
def gapsTakesRow : OpenClaim := { program := "ytgpacbklpmloaaa", sum := "211c48380b3a9070c8c0e94330b37e61a7e33f884ed64e7ec6faa0a3c9ad6e46", func := "creel/creellaw17.GapsTakes", spec := "gapsTakes", apart := false }
def GapsTakesSaid : Prop := gapsTakesRow.holds Try.pinned (OpenSpec.ofChange gapsTakesSpec)

/-- ITS FALSE NEIGHBOUR: 'it returns false'. Refute it at one input. -/
def gapsTakesWrong : ChangeSpec := { name := "gapsTakes", fn := fun _ => fun
  | [d1, d2] => { results := [.lit (.bool false)], args := [d1, d2] }
  | _ => none }
def GapsTakesWrongFalsely : Prop := gapsTakesRow.holds Try.pinned (OpenSpec.ofChange gapsTakesWrong)

/-- 'creellaw17.GapsBack': WHATEVER THE INPUT: true; the input reads as it did. -/
def gapsBackSpec : ChangeSpec := { name := "gapsBack", fn := fun _ => fun
  | [d1, d2, d3, d4] => { results := [.lit (.bool true)], args := [d1, d2, d3, d4] }
  | _ => none }
def gapsBackRow : OpenClaim := { program := "ytgpacbklpmloaaa", sum := "211c48380b3a9070c8c0e94330b37e61a7e33f884ed64e7ec6faa0a3c9ad6e46", func := "creel/creellaw17.GapsBack", spec := "gapsBack", apart := false }
def GapsBackSaid : Prop := gapsBackRow.holds Try.pinned (OpenSpec.ofChange gapsBackSpec)

/-- ITS FALSE NEIGHBOUR: 'it returns false'. Refute it at one input. -/
def gapsBackWrong : ChangeSpec := { name := "gapsBack", fn := fun _ => fun
  | [d1, d2, d3, d4] => { results := [.lit (.bool false)], args := [d1, d2, d3, d4] }
  | _ => none }
def GapsBackWrongFalsely : Prop := gapsBackRow.holds Try.pinned (OpenSpec.ofChange gapsBackWrong)

/-- 'creellaw15.WordsPuts': WHATEVER THE INPUT: true; the input reads as it did. -/
def wordsPutsSpec : ChangeSpec := { name := "wordsPuts", fn := fun _ => fun
  | [d1, d2, d3] => { results := [.lit (.bool true)], args := [d1, d2, d3] }
  | _ => none }
def wordsPutsRow : OpenClaim := { program := "ytgpacbklpmloaaa", sum := "211c48380b3a9070c8c0e94330b37e61a7e33f884ed64e7ec6faa0a3c9ad6e46", func := "creel/creellaw15.WordsPuts", spec := "wordsPuts", inPlace := ["internal/bytealg.Compare"], apart := false }
def WordsPutsSaid : Prop := wordsPutsRow.holds Try.pinned (OpenSpec.ofChange wordsPutsSpec)

/-- ITS FALSE NEIGHBOUR: 'it returns false'. Refute it at one input. -/
def wordsPutsWrong : ChangeSpec := { name := "wordsPuts", fn := fun _ => fun
  | [d1, d2, d3] => { results := [.lit (.bool false)], args := [d1, d2, d3] }
  | _ => none }
def WordsPutsWrongFalsely : Prop := wordsPutsRow.holds Try.pinned (OpenSpec.ofChange wordsPutsWrong)

/-- 'creellaw15.WordsShared': WHATEVER THE INPUT: true; the input reads as it did. -/
def wordsSharedSpec : ChangeSpec := { name := "wordsShared", fn := fun _ => fun
  | [d1, d2] => { results := [.lit (.bool true)], args := [d1, d2] }
  | _ => none }
def wordsSharedRow : OpenClaim := { program := "ytgpacbklpmloaaa", sum := "211c48380b3a9070c8c0e94330b37e61a7e33f884ed64e7ec6faa0a3c9ad6e46", func := "creel/creellaw15.WordsShared", spec := "wordsShared", inPlace := ["internal/bytealg.Compare"], apart := false }
def WordsSharedSaid : Prop := wordsSharedRow.holds Try.pinned (OpenSpec.ofChange wordsSharedSpec)

/-- ITS FALSE NEIGHBOUR: 'it returns false'. Refute it at one input. -/
def wordsSharedWrong : ChangeSpec := { name := "wordsShared", fn := fun _ => fun
  | [d1, d2] => { results := [.lit (.bool false)], args := [d1, d2] }
  | _ => none }
def WordsSharedWrongFalsely : Prop := wordsSharedRow.holds Try.pinned (OpenSpec.ofChange wordsSharedWrong)

/-- 'creellaw15.WordsLong': WHATEVER THE INPUT: true; the input reads as it did. -/
def wordsLongSpec : ChangeSpec := { name := "wordsLong", fn := fun _ => fun
  | [d] => { results := [.lit (.bool true)], args := [d] }
  | _ => none }
def wordsLongRow : OpenClaim := { program := "ytgpacbklpmloaaa", sum := "211c48380b3a9070c8c0e94330b37e61a7e33f884ed64e7ec6faa0a3c9ad6e46", func := "creel/creellaw15.WordsLong", spec := "wordsLong", inPlace := ["internal/bytealg.Compare"], apart := false }
def WordsLongSaid : Prop := wordsLongRow.holds Try.pinned (OpenSpec.ofChange wordsLongSpec)

/-- ITS FALSE NEIGHBOUR: 'it returns false'. Refute it at one input. -/
def wordsLongWrong : ChangeSpec := { name := "wordsLong", fn := fun _ => fun
  | [d] => { results := [.lit (.bool false)], args := [d] }
  | _ => none }
def WordsLongWrongFalsely : Prop := wordsLongRow.holds Try.pinned (OpenSpec.ofChange wordsLongWrong)

/-- 'creellaw15.WordsTakes': WHATEVER THE INPUT: true; the input reads as it did. -/
def wordsTakesSpec : ChangeSpec := { name := "wordsTakes", fn := fun _ => fun
  | [d] => { results := [.lit (.bool true)], args := [d] }
  | _ => none }
def wordsTakesRow : OpenClaim := { program := "ytgpacbklpmloaaa", sum := "211c48380b3a9070c8c0e94330b37e61a7e33f884ed64e7ec6faa0a3c9ad6e46", func := "creel/creellaw15.WordsTakes", spec := "wordsTakes", inPlace := ["internal/bytealg.Compare"], apart := false }
def WordsTakesSaid : Prop := wordsTakesRow.holds Try.pinned (OpenSpec.ofChange wordsTakesSpec)

/-- ITS FALSE NEIGHBOUR: 'it returns false'. Refute it at one input. -/
def wordsTakesWrong : ChangeSpec := { name := "wordsTakes", fn := fun _ => fun
  | [d] => { results := [.lit (.bool false)], args := [d] }
  | _ => none }
def WordsTakesWrongFalsely : Prop := wordsTakesRow.holds Try.pinned (OpenSpec.ofChange wordsTakesWrong)

/-- 'creellaw15.WordsBack': WHATEVER THE INPUT: true; the input reads as it did. -/
def wordsBackSpec : ChangeSpec := { name := "wordsBack", fn := fun _ => fun
  | [d1, d2] => { results := [.lit (.bool true)], args := [d1, d2] }
  | _ => none }
def wordsBackRow : OpenClaim := { program := "ytgpacbklpmloaaa", sum := "211c48380b3a9070c8c0e94330b37e61a7e33f884ed64e7ec6faa0a3c9ad6e46", func := "creel/creellaw15.WordsBack", spec := "wordsBack", inPlace := ["internal/bytealg.Compare"], apart := false }
def WordsBackSaid : Prop := wordsBackRow.holds Try.pinned (OpenSpec.ofChange wordsBackSpec)

/-- ITS FALSE NEIGHBOUR: 'it returns false'. Refute it at one input. -/
def wordsBackWrong : ChangeSpec := { name := "wordsBack", fn := fun _ => fun
  | [d1, d2] => { results := [.lit (.bool false)], args := [d1, d2] }
  | _ => none }
def WordsBackWrongFalsely : Prop := wordsBackRow.holds Try.pinned (OpenSpec.ofChange wordsBackWrong)

/-- 'creellaw15.WordsOnce': WHATEVER THE INPUT: true; the input reads as it did. -/
def wordsOnceSpec : ChangeSpec := { name := "wordsOnce", fn := fun _ => fun
  | [d] => { results := [.lit (.bool true)], args := [d] }
  | _ => none }
def wordsOnceRow : OpenClaim := { program := "ytgpacbklpmloaaa", sum := "211c48380b3a9070c8c0e94330b37e61a7e33f884ed64e7ec6faa0a3c9ad6e46", func := "creel/creellaw15.WordsOnce", spec := "wordsOnce", inPlace := ["internal/bytealg.Compare"], apart := false }
def WordsOnceSaid : Prop := wordsOnceRow.holds Try.pinned (OpenSpec.ofChange wordsOnceSpec)

/-- ITS FALSE NEIGHBOUR: 'it returns false'. Refute it at one input. -/
def wordsOnceWrong : ChangeSpec := { name := "wordsOnce", fn := fun _ => fun
  | [d] => { results := [.lit (.bool false)], args := [d] }
  | _ => none }
def WordsOnceWrongFalsely : Prop := wordsOnceRow.holds Try.pinned (OpenSpec.ofChange wordsOnceWrong)

/- THE SECOND FORM. 'bulk': how many values and letters a reading holds, each counted each time it is reached (what is shared counts as often as it is met; a slice's spare places count too). A statement '..UptoSaid' is the law's where the arguments, and the package variables that the reading takes, are together of bulk at most 1048576: NARROWER than '..Said'. Prove '..Said' where nothing that the law and all that it calls make is longer than what came in: it says more and counts as full. Else prove '..UptoSaid'. A law counts once. -/
mutual
def uptoBulk {H : Type} : DataW H → Nat
  | .lit (.string bytes) => bytes.length + 1
  | .lit _ => 1
  | .nil => 1
  | .ptr d => uptoBulk d + 1
  | .slice elems spare => uptoBulkAll elems + uptoBulkAll spare + 1
  | .agg parts => uptoBulkAll parts + 1
  | .iface _ d => uptoBulk d + 1
  | .map entries => uptoBulkEntries entries + 1
  | .held _ => 1
def uptoBulkAll {H : Type} : List (DataW H) → Nat
  | [] => 0
  | d :: r => uptoBulk d + uptoBulkAll r
def uptoBulkEntries {H : Type} : List (Lit × DataW H) → Nat
  | [] => 0
  | x :: r => uptoBulkEntry x + uptoBulkEntries r
def uptoBulkEntry {H : Type} : Lit × DataW H → Nat
  | (.string bytes, d) => bytes.length + uptoBulk d + 1
  | (_, d) => uptoBulk d + 1
 end
def uptoSmall : (H : Type) → List (DataW H) → Bool := fun _ ds => decide (uptoBulkAll ds ≤ 1048576)
def OpenSpec.upto (s : _root_.Go.ChangeSpec) : _root_.Go.OpenSpec := { _root_.Go.OpenSpec.ofChange s with cond := some uptoSmall }

/-- 'creellaw17.GapsPuts', WHERE WHAT IT READS IS OF BULK AT MOST 1048576: true; the input reads as it did. -/
def gapsPutsUptoRow : OpenClaim := { program := "ytgpacbklpmloaaa", sum := "211c48380b3a9070c8c0e94330b37e61a7e33f884ed64e7ec6faa0a3c9ad6e46", func := "creel/creellaw17.GapsPuts", spec := "gapsPuts", apart := false, narrowed := true }
def GapsPutsUptoSaid : Prop := gapsPutsUptoRow.holds Try.pinned (OpenSpec.upto gapsPutsSpec)

/-- 'creellaw17.GapsNear', WHERE WHAT IT READS IS OF BULK AT MOST 1048576: true; the input reads as it did. -/
def gapsNearUptoRow : OpenClaim := { program := "ytgpacbklpmloaaa", sum := "211c48380b3a9070c8c0e94330b37e61a7e33f884ed64e7ec6faa0a3c9ad6e46", func := "creel/creellaw17.GapsNear", spec := "gapsNear", apart := false, narrowed := true }
def GapsNearUptoSaid : Prop := gapsNearUptoRow.holds Try.pinned (OpenSpec.upto gapsNearSpec)

/-- 'creellaw17.GapsOrder', WHERE WHAT IT READS IS OF BULK AT MOST 1048576: true; the input reads as it did. -/
def gapsOrderUptoRow : OpenClaim := { program := "ytgpacbklpmloaaa", sum := "211c48380b3a9070c8c0e94330b37e61a7e33f884ed64e7ec6faa0a3c9ad6e46", func := "creel/creellaw17.GapsOrder", spec := "gapsOrder", apart := false, narrowed := true }
def GapsOrderUptoSaid : Prop := gapsOrderUptoRow.holds Try.pinned (OpenSpec.upto gapsOrderSpec)

/-- 'creellaw17.GapsTakes', WHERE WHAT IT READS IS OF BULK AT MOST 1048576: true; the input reads as it did. -/
def gapsTakesUptoRow : OpenClaim := { program := "ytgpacbklpmloaaa", sum := "211c48380b3a9070c8c0e94330b37e61a7e33f884ed64e7ec6faa0a3c9ad6e46", func := "creel/creellaw17.GapsTakes", spec := "gapsTakes", apart := false, narrowed := true }
def GapsTakesUptoSaid : Prop := gapsTakesUptoRow.holds Try.pinned (OpenSpec.upto gapsTakesSpec)

/-- 'creellaw17.GapsBack', WHERE WHAT IT READS IS OF BULK AT MOST 1048576: true; the input reads as it did. -/
def gapsBackUptoRow : OpenClaim := { program := "ytgpacbklpmloaaa", sum := "211c48380b3a9070c8c0e94330b37e61a7e33f884ed64e7ec6faa0a3c9ad6e46", func := "creel/creellaw17.GapsBack", spec := "gapsBack", apart := false, narrowed := true }
def GapsBackUptoSaid : Prop := gapsBackUptoRow.holds Try.pinned (OpenSpec.upto gapsBackSpec)

/-- 'creellaw15.WordsPuts', WHERE WHAT IT READS IS OF BULK AT MOST 1048576: true; the input reads as it did. -/
def wordsPutsUptoRow : OpenClaim := { program := "ytgpacbklpmloaaa", sum := "211c48380b3a9070c8c0e94330b37e61a7e33f884ed64e7ec6faa0a3c9ad6e46", func := "creel/creellaw15.WordsPuts", spec := "wordsPuts", inPlace := ["internal/bytealg.Compare"], apart := false, narrowed := true }
def WordsPutsUptoSaid : Prop := wordsPutsUptoRow.holds Try.pinned (OpenSpec.upto wordsPutsSpec)

/-- 'creellaw15.WordsShared', WHERE WHAT IT READS IS OF BULK AT MOST 1048576: true; the input reads as it did. -/
def wordsSharedUptoRow : OpenClaim := { program := "ytgpacbklpmloaaa", sum := "211c48380b3a9070c8c0e94330b37e61a7e33f884ed64e7ec6faa0a3c9ad6e46", func := "creel/creellaw15.WordsShared", spec := "wordsShared", inPlace := ["internal/bytealg.Compare"], apart := false, narrowed := true }
def WordsSharedUptoSaid : Prop := wordsSharedUptoRow.holds Try.pinned (OpenSpec.upto wordsSharedSpec)

/-- 'creellaw15.WordsLong', WHERE WHAT IT READS IS OF BULK AT MOST 1048576: true; the input reads as it did. -/
def wordsLongUptoRow : OpenClaim := { program := "ytgpacbklpmloaaa", sum := "211c48380b3a9070c8c0e94330b37e61a7e33f884ed64e7ec6faa0a3c9ad6e46", func := "creel/creellaw15.WordsLong", spec := "wordsLong", inPlace := ["internal/bytealg.Compare"], apart := false, narrowed := true }
def WordsLongUptoSaid : Prop := wordsLongUptoRow.holds Try.pinned (OpenSpec.upto wordsLongSpec)

/-- 'creellaw15.WordsTakes', WHERE WHAT IT READS IS OF BULK AT MOST 1048576: true; the input reads as it did. -/
def wordsTakesUptoRow : OpenClaim := { program := "ytgpacbklpmloaaa", sum := "211c48380b3a9070c8c0e94330b37e61a7e33f884ed64e7ec6faa0a3c9ad6e46", func := "creel/creellaw15.WordsTakes", spec := "wordsTakes", inPlace := ["internal/bytealg.Compare"], apart := false, narrowed := true }
def WordsTakesUptoSaid : Prop := wordsTakesUptoRow.holds Try.pinned (OpenSpec.upto wordsTakesSpec)

/-- 'creellaw15.WordsBack', WHERE WHAT IT READS IS OF BULK AT MOST 1048576: true; the input reads as it did. -/
def wordsBackUptoRow : OpenClaim := { program := "ytgpacbklpmloaaa", sum := "211c48380b3a9070c8c0e94330b37e61a7e33f884ed64e7ec6faa0a3c9ad6e46", func := "creel/creellaw15.WordsBack", spec := "wordsBack", inPlace := ["internal/bytealg.Compare"], apart := false, narrowed := true }
def WordsBackUptoSaid : Prop := wordsBackUptoRow.holds Try.pinned (OpenSpec.upto wordsBackSpec)

/-- 'creellaw15.WordsOnce', WHERE WHAT IT READS IS OF BULK AT MOST 1048576: true; the input reads as it did. -/
def wordsOnceUptoRow : OpenClaim := { program := "ytgpacbklpmloaaa", sum := "211c48380b3a9070c8c0e94330b37e61a7e33f884ed64e7ec6faa0a3c9ad6e46", func := "creel/creellaw15.WordsOnce", spec := "wordsOnce", inPlace := ["internal/bytealg.Compare"], apart := false, narrowed := true }
def WordsOnceUptoSaid : Prop := wordsOnceUptoRow.holds Try.pinned (OpenSpec.upto wordsOnceSpec)

end Rows
end Go.Proofs.Ytgpacbklpmloaaa
