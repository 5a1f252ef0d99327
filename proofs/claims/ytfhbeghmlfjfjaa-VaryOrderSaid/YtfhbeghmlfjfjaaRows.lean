/-
  No cell of these rows narrows 'for every input' (looked for: loops, veiled, ifaces, maps, wideKeys, modest, calm, conditions, laid).
  DERIVED. THE GIVEN ROWS OF THIS SEAT. 12 by the template 'for every input the law returns true; each argument reads behind the call as it read before'; 0 by the template 'total and deterministic' (their statements: YtfhbeghmlfjfjaaTotals.lean).
  GIVEN WITH THE SEED: the statements are not yours to turn. If you find one false, say at which input.
  Laid BY PROGRAM, IN A SANDBOX (cutbox-rows.mjs): the forced cells as the released guide's own fill.sh prints them over the translation e69af6da53a9d3b1… (all of the seat's roots in one cut). By AI agents, Wed Nov 11 2026. No macro, syntax, notation, axiom, sorry.
-/
import Derived.Test.YtfhbeghmlfjfjaaChecked
import GoSem.Claim
import GoSem.ClaimJoined
import GoSem.ClaimMapViews
import Derived.JoinedTies
import Derived.KernelRfl
namespace Go.Proofs.Ytfhbeghmlfjfjaa
/- THE CELL 'sum', in the pinned program and in every row, IS THE sha256 OF THE DUMP (.gsa) THAT YtfhbeghmlfjfjaaProg.lean LOADS. Nothing in Lean hashes anything: it is a label: what it is worth is what the hold of that sum in a sandbox is worth. -/
noncomputable def Try.pinned : Pinned := { name := "ytfhbeghmlfjfjaa", sum := "e69af6da53a9d3b1c5f3c695d53dd9f46e353c3a2b6e3265cc3a96421ec0c722", checked := Try.checked }
namespace Rows
def none {H : Type} : Left H := { results := [], args := [] }

/-- 'creellaw19.PartBoth': WHATEVER THE INPUT: true; the input reads as it did. -/
def partBothSpec : ChangeSpec := { name := "partBoth", fn := fun _ => fun
  | [d1, d2, d3] => { results := [.lit (.bool true)], args := [d1, d2, d3] }
  | _ => none }
def partBothRow : OpenClaim := { program := "ytfhbeghmlfjfjaa", sum := "e69af6da53a9d3b1c5f3c695d53dd9f46e353c3a2b6e3265cc3a96421ec0c722", func := "creel/creellaw19.PartBoth", spec := "partBoth", apart := false }
def PartBothSaid : Prop := partBothRow.holds Try.pinned (OpenSpec.ofChange partBothSpec)

/-- ITS FALSE NEIGHBOUR: 'it returns false'. Refute it at one input. -/
def partBothWrong : ChangeSpec := { name := "partBoth", fn := fun _ => fun
  | [d1, d2, d3] => { results := [.lit (.bool false)], args := [d1, d2, d3] }
  | _ => none }
def PartBothWrongFalsely : Prop := partBothRow.holds Try.pinned (OpenSpec.ofChange partBothWrong)

/-- 'creellaw19.PartTells': WHATEVER THE INPUT: true; the input reads as it did. -/
def partTellsSpec : ChangeSpec := { name := "partTells", fn := fun _ => fun
  | [d1, d2, d3, d4] => { results := [.lit (.bool true)], args := [d1, d2, d3, d4] }
  | _ => none }
def partTellsRow : OpenClaim := { program := "ytfhbeghmlfjfjaa", sum := "e69af6da53a9d3b1c5f3c695d53dd9f46e353c3a2b6e3265cc3a96421ec0c722", func := "creel/creellaw19.PartTells", spec := "partTells", apart := false }
def PartTellsSaid : Prop := partTellsRow.holds Try.pinned (OpenSpec.ofChange partTellsSpec)

/-- ITS FALSE NEIGHBOUR: 'it returns false'. Refute it at one input. -/
def partTellsWrong : ChangeSpec := { name := "partTells", fn := fun _ => fun
  | [d1, d2, d3, d4] => { results := [.lit (.bool false)], args := [d1, d2, d3, d4] }
  | _ => none }
def PartTellsWrongFalsely : Prop := partTellsRow.holds Try.pinned (OpenSpec.ofChange partTellsWrong)

/-- 'creellaw19.PartWhole': WHATEVER THE INPUT: true; the input reads as it did. -/
def partWholeSpec : ChangeSpec := { name := "partWhole", fn := fun _ => fun
  | [d1, d2, d3] => { results := [.lit (.bool true)], args := [d1, d2, d3] }
  | _ => none }
def partWholeRow : OpenClaim := { program := "ytfhbeghmlfjfjaa", sum := "e69af6da53a9d3b1c5f3c695d53dd9f46e353c3a2b6e3265cc3a96421ec0c722", func := "creel/creellaw19.PartWhole", spec := "partWhole", apart := false }
def PartWholeSaid : Prop := partWholeRow.holds Try.pinned (OpenSpec.ofChange partWholeSpec)

/-- ITS FALSE NEIGHBOUR: 'it returns false'. Refute it at one input. -/
def partWholeWrong : ChangeSpec := { name := "partWhole", fn := fun _ => fun
  | [d1, d2, d3] => { results := [.lit (.bool false)], args := [d1, d2, d3] }
  | _ => none }
def PartWholeWrongFalsely : Prop := partWholeRow.holds Try.pinned (OpenSpec.ofChange partWholeWrong)

/-- 'creellaw19.PartLess': WHATEVER THE INPUT: true; the input reads as it did. -/
def partLessSpec : ChangeSpec := { name := "partLess", fn := fun _ => fun
  | [d1, d2, d3, d4] => { results := [.lit (.bool true)], args := [d1, d2, d3, d4] }
  | _ => none }
def partLessRow : OpenClaim := { program := "ytfhbeghmlfjfjaa", sum := "e69af6da53a9d3b1c5f3c695d53dd9f46e353c3a2b6e3265cc3a96421ec0c722", func := "creel/creellaw19.PartLess", spec := "partLess", apart := false }
def PartLessSaid : Prop := partLessRow.holds Try.pinned (OpenSpec.ofChange partLessSpec)

/-- ITS FALSE NEIGHBOUR: 'it returns false'. Refute it at one input. -/
def partLessWrong : ChangeSpec := { name := "partLess", fn := fun _ => fun
  | [d1, d2, d3, d4] => { results := [.lit (.bool false)], args := [d1, d2, d3, d4] }
  | _ => none }
def PartLessWrongFalsely : Prop := partLessRow.holds Try.pinned (OpenSpec.ofChange partLessWrong)

/-- 'creellaw19.PartEdges': WHATEVER THE INPUT: true; the input reads as it did. -/
def partEdgesSpec : ChangeSpec := { name := "partEdges", fn := fun _ => fun
  | [d1, d2, d3, d4] => { results := [.lit (.bool true)], args := [d1, d2, d3, d4] }
  | _ => none }
def partEdgesRow : OpenClaim := { program := "ytfhbeghmlfjfjaa", sum := "e69af6da53a9d3b1c5f3c695d53dd9f46e353c3a2b6e3265cc3a96421ec0c722", func := "creel/creellaw19.PartEdges", spec := "partEdges", apart := false }
def PartEdgesSaid : Prop := partEdgesRow.holds Try.pinned (OpenSpec.ofChange partEdgesSpec)

/-- ITS FALSE NEIGHBOUR: 'it returns false'. Refute it at one input. -/
def partEdgesWrong : ChangeSpec := { name := "partEdges", fn := fun _ => fun
  | [d1, d2, d3, d4] => { results := [.lit (.bool false)], args := [d1, d2, d3, d4] }
  | _ => none }
def PartEdgesWrongFalsely : Prop := partEdgesRow.holds Try.pinned (OpenSpec.ofChange partEdgesWrong)

/-- 'creellaw19.PartOrder': WHATEVER THE INPUT: true; the input reads as it did. -/
def partOrderSpec : ChangeSpec := { name := "partOrder", fn := fun _ => fun
  | [d1, d2, d3, d4] => { results := [.lit (.bool true)], args := [d1, d2, d3, d4] }
  | _ => none }
def partOrderRow : OpenClaim := { program := "ytfhbeghmlfjfjaa", sum := "e69af6da53a9d3b1c5f3c695d53dd9f46e353c3a2b6e3265cc3a96421ec0c722", func := "creel/creellaw19.PartOrder", spec := "partOrder", apart := false }
def PartOrderSaid : Prop := partOrderRow.holds Try.pinned (OpenSpec.ofChange partOrderSpec)

/-- ITS FALSE NEIGHBOUR: 'it returns false'. Refute it at one input. -/
def partOrderWrong : ChangeSpec := { name := "partOrder", fn := fun _ => fun
  | [d1, d2, d3, d4] => { results := [.lit (.bool false)], args := [d1, d2, d3, d4] }
  | _ => none }
def PartOrderWrongFalsely : Prop := partOrderRow.holds Try.pinned (OpenSpec.ofChange partOrderWrong)

/-- 'creellaw01.VaryBack': WHATEVER THE INPUT: true; the input reads as it did. -/
def varyBackSpec : ChangeSpec := { name := "varyBack", fn := fun _ => fun
  | [d1, d2, d3] => { results := [.lit (.bool true)], args := [d1, d2, d3] }
  | _ => none }
def varyBackRow : OpenClaim := { program := "ytfhbeghmlfjfjaa", sum := "e69af6da53a9d3b1c5f3c695d53dd9f46e353c3a2b6e3265cc3a96421ec0c722", func := "creel/creellaw01.VaryBack", spec := "varyBack", apart := false }
def VaryBackSaid : Prop := varyBackRow.holds Try.pinned (OpenSpec.ofChange varyBackSpec)

/-- ITS FALSE NEIGHBOUR: 'it returns false'. Refute it at one input. -/
def varyBackWrong : ChangeSpec := { name := "varyBack", fn := fun _ => fun
  | [d1, d2, d3] => { results := [.lit (.bool false)], args := [d1, d2, d3] }
  | _ => none }
def VaryBackWrongFalsely : Prop := varyBackRow.holds Try.pinned (OpenSpec.ofChange varyBackWrong)

/-- 'creellaw01.VaryCut': WHATEVER THE INPUT: true; the input reads as it did. -/
def varyCutSpec : ChangeSpec := { name := "varyCut", fn := fun _ => fun
  | [d1, d2] => { results := [.lit (.bool true)], args := [d1, d2] }
  | _ => none }
def varyCutRow : OpenClaim := { program := "ytfhbeghmlfjfjaa", sum := "e69af6da53a9d3b1c5f3c695d53dd9f46e353c3a2b6e3265cc3a96421ec0c722", func := "creel/creellaw01.VaryCut", spec := "varyCut", apart := false }
def VaryCutSaid : Prop := varyCutRow.holds Try.pinned (OpenSpec.ofChange varyCutSpec)

/-- ITS FALSE NEIGHBOUR: 'it returns false'. Refute it at one input. -/
def varyCutWrong : ChangeSpec := { name := "varyCut", fn := fun _ => fun
  | [d1, d2] => { results := [.lit (.bool false)], args := [d1, d2] }
  | _ => none }
def VaryCutWrongFalsely : Prop := varyCutRow.holds Try.pinned (OpenSpec.ofChange varyCutWrong)

/-- 'creellaw01.VaryLen': WHATEVER THE INPUT: true; the input reads as it did. -/
def varyLenSpec : ChangeSpec := { name := "varyLen", fn := fun _ => fun
  | [d1, d2] => { results := [.lit (.bool true)], args := [d1, d2] }
  | _ => none }
def varyLenRow : OpenClaim := { program := "ytfhbeghmlfjfjaa", sum := "e69af6da53a9d3b1c5f3c695d53dd9f46e353c3a2b6e3265cc3a96421ec0c722", func := "creel/creellaw01.VaryLen", spec := "varyLen", apart := false }
def VaryLenSaid : Prop := varyLenRow.holds Try.pinned (OpenSpec.ofChange varyLenSpec)

/-- ITS FALSE NEIGHBOUR: 'it returns false'. Refute it at one input. -/
def varyLenWrong : ChangeSpec := { name := "varyLen", fn := fun _ => fun
  | [d1, d2] => { results := [.lit (.bool false)], args := [d1, d2] }
  | _ => none }
def VaryLenWrongFalsely : Prop := varyLenRow.holds Try.pinned (OpenSpec.ofChange varyLenWrong)

/-- 'creellaw01.VarySigns': WHATEVER THE INPUT: true; the input reads as it did. -/
def varySignsSpec : ChangeSpec := { name := "varySigns", fn := fun _ => fun
  | [d1, d2] => { results := [.lit (.bool true)], args := [d1, d2] }
  | _ => none }
def varySignsRow : OpenClaim := { program := "ytfhbeghmlfjfjaa", sum := "e69af6da53a9d3b1c5f3c695d53dd9f46e353c3a2b6e3265cc3a96421ec0c722", func := "creel/creellaw01.VarySigns", spec := "varySigns", apart := false }
def VarySignsSaid : Prop := varySignsRow.holds Try.pinned (OpenSpec.ofChange varySignsSpec)

/-- ITS FALSE NEIGHBOUR: 'it returns false'. Refute it at one input. -/
def varySignsWrong : ChangeSpec := { name := "varySigns", fn := fun _ => fun
  | [d1, d2] => { results := [.lit (.bool false)], args := [d1, d2] }
  | _ => none }
def VarySignsWrongFalsely : Prop := varySignsRow.holds Try.pinned (OpenSpec.ofChange varySignsWrong)

/-- 'creellaw01.VaryTakes': WHATEVER THE INPUT: true; the input reads as it did. -/
def varyTakesSpec : ChangeSpec := { name := "varyTakes", fn := fun _ => fun
  | [d1, d2] => { results := [.lit (.bool true)], args := [d1, d2] }
  | _ => none }
def varyTakesRow : OpenClaim := { program := "ytfhbeghmlfjfjaa", sum := "e69af6da53a9d3b1c5f3c695d53dd9f46e353c3a2b6e3265cc3a96421ec0c722", func := "creel/creellaw01.VaryTakes", spec := "varyTakes", apart := false }
def VaryTakesSaid : Prop := varyTakesRow.holds Try.pinned (OpenSpec.ofChange varyTakesSpec)

/-- ITS FALSE NEIGHBOUR: 'it returns false'. Refute it at one input. -/
def varyTakesWrong : ChangeSpec := { name := "varyTakes", fn := fun _ => fun
  | [d1, d2] => { results := [.lit (.bool false)], args := [d1, d2] }
  | _ => none }
def VaryTakesWrongFalsely : Prop := varyTakesRow.holds Try.pinned (OpenSpec.ofChange varyTakesWrong)

/-- 'creellaw01.VaryOrder': WHATEVER THE INPUT: true; the input reads as it did. -/
def varyOrderSpec : ChangeSpec := { name := "varyOrder", fn := fun _ => fun
  | [d1, d2, d3] => { results := [.lit (.bool true)], args := [d1, d2, d3] }
  | _ => none }
def varyOrderRow : OpenClaim := { program := "ytfhbeghmlfjfjaa", sum := "e69af6da53a9d3b1c5f3c695d53dd9f46e353c3a2b6e3265cc3a96421ec0c722", func := "creel/creellaw01.VaryOrder", spec := "varyOrder", apart := false }
def VaryOrderSaid : Prop := varyOrderRow.holds Try.pinned (OpenSpec.ofChange varyOrderSpec)

/-- ITS FALSE NEIGHBOUR: 'it returns false'. Refute it at one input. -/
def varyOrderWrong : ChangeSpec := { name := "varyOrder", fn := fun _ => fun
  | [d1, d2, d3] => { results := [.lit (.bool false)], args := [d1, d2, d3] }
  | _ => none }
def VaryOrderWrongFalsely : Prop := varyOrderRow.holds Try.pinned (OpenSpec.ofChange varyOrderWrong)

/- THE SECOND FORM. 'bulk': how many values and letters a reading holds, each counted each time it is reached (what is shared counts as often as it is met; a slice's spare places count too). A statement '..UptoSaid' is the law's where the arguments, and the package variables that the reading takes, are together of bulk at most 1048576: NARROWER than '..Said'. Prove '..Said' where nothing that the law and all that it calls make is longer than what came in: it says more and counts as full. Else prove '..UptoSaid'. A law counts once. -/
mutual
def uptoBulk {H : Type} : DataW H → Nat
  | .lit (.string bytes) => bytes.length + 1
  | .lit _ => 1
  | .nil => 1
  | .ptr d => uptoBulk d + 1
  | .slice elems spare => uptoBulkAll elems + uptoBulkAll spare + 1
  | .agg parts => uptoBulkAll parts + 1
  | .iface _ d => uptoBulk d + 1
  | .map entries => uptoBulkEntries entries + 1
  | .held _ => 1
def uptoBulkAll {H : Type} : List (DataW H) → Nat
  | [] => 0
  | d :: r => uptoBulk d + uptoBulkAll r
def uptoBulkEntries {H : Type} : List (Lit × DataW H) → Nat
  | [] => 0
  | x :: r => uptoBulkEntry x + uptoBulkEntries r
def uptoBulkEntry {H : Type} : Lit × DataW H → Nat
  | (.string bytes, d) => bytes.length + uptoBulk d + 1
  | (_, d) => uptoBulk d + 1
 end
def uptoSmall : (H : Type) → List (DataW H) → Bool := fun _ ds => decide (uptoBulkAll ds ≤ 1048576)
def OpenSpec.upto (s : _root_.Go.ChangeSpec) : _root_.Go.OpenSpec := { _root_.Go.OpenSpec.ofChange s with cond := some uptoSmall }

/-- 'creellaw19.PartBoth', WHERE WHAT IT READS IS OF BULK AT MOST 1048576: true; the input reads as it did. -/
def partBothUptoRow : OpenClaim := { program := "ytfhbeghmlfjfjaa", sum := "e69af6da53a9d3b1c5f3c695d53dd9f46e353c3a2b6e3265cc3a96421ec0c722", func := "creel/creellaw19.PartBoth", spec := "partBoth", apart := false, narrowed := true }
def PartBothUptoSaid : Prop := partBothUptoRow.holds Try.pinned (OpenSpec.upto partBothSpec)

/-- 'creellaw19.PartTells', WHERE WHAT IT READS IS OF BULK AT MOST 1048576: true; the input reads as it did. -/
def partTellsUptoRow : OpenClaim := { program := "ytfhbeghmlfjfjaa", sum := "e69af6da53a9d3b1c5f3c695d53dd9f46e353c3a2b6e3265cc3a96421ec0c722", func := "creel/creellaw19.PartTells", spec := "partTells", apart := false, narrowed := true }
def PartTellsUptoSaid : Prop := partTellsUptoRow.holds Try.pinned (OpenSpec.upto partTellsSpec)

/-- 'creellaw19.PartWhole', WHERE WHAT IT READS IS OF BULK AT MOST 1048576: true; the input reads as it did. -/
def partWholeUptoRow : OpenClaim := { program := "ytfhbeghmlfjfjaa", sum := "e69af6da53a9d3b1c5f3c695d53dd9f46e353c3a2b6e3265cc3a96421ec0c722", func := "creel/creellaw19.PartWhole", spec := "partWhole", apart := false, narrowed := true }
def PartWholeUptoSaid : Prop := partWholeUptoRow.holds Try.pinned (OpenSpec.upto partWholeSpec)

/-- 'creellaw19.PartLess', WHERE WHAT IT READS IS OF BULK AT MOST 1048576: true; the input reads as it did. -/
def partLessUptoRow : OpenClaim := { program := "ytfhbeghmlfjfjaa", sum := "e69af6da53a9d3b1c5f3c695d53dd9f46e353c3a2b6e3265cc3a96421ec0c722", func := "creel/creellaw19.PartLess", spec := "partLess", apart := false, narrowed := true }
def PartLessUptoSaid : Prop := partLessUptoRow.holds Try.pinned (OpenSpec.upto partLessSpec)

/-- 'creellaw19.PartEdges', WHERE WHAT IT READS IS OF BULK AT MOST 1048576: true; the input reads as it did. -/
def partEdgesUptoRow : OpenClaim := { program := "ytfhbeghmlfjfjaa", sum := "e69af6da53a9d3b1c5f3c695d53dd9f46e353c3a2b6e3265cc3a96421ec0c722", func := "creel/creellaw19.PartEdges", spec := "partEdges", apart := false, narrowed := true }
def PartEdgesUptoSaid : Prop := partEdgesUptoRow.holds Try.pinned (OpenSpec.upto partEdgesSpec)

/-- 'creellaw19.PartOrder', WHERE WHAT IT READS IS OF BULK AT MOST 1048576: true; the input reads as it did. -/
def partOrderUptoRow : OpenClaim := { program := "ytfhbeghmlfjfjaa", sum := "e69af6da53a9d3b1c5f3c695d53dd9f46e353c3a2b6e3265cc3a96421ec0c722", func := "creel/creellaw19.PartOrder", spec := "partOrder", apart := false, narrowed := true }
def PartOrderUptoSaid : Prop := partOrderUptoRow.holds Try.pinned (OpenSpec.upto partOrderSpec)

/-- 'creellaw01.VaryBack', WHERE WHAT IT READS IS OF BULK AT MOST 1048576: true; the input reads as it did. -/
def varyBackUptoRow : OpenClaim := { program := "ytfhbeghmlfjfjaa", sum := "e69af6da53a9d3b1c5f3c695d53dd9f46e353c3a2b6e3265cc3a96421ec0c722", func := "creel/creellaw01.VaryBack", spec := "varyBack", apart := false, narrowed := true }
def VaryBackUptoSaid : Prop := varyBackUptoRow.holds Try.pinned (OpenSpec.upto varyBackSpec)

/-- 'creellaw01.VaryCut', WHERE WHAT IT READS IS OF BULK AT MOST 1048576: true; the input reads as it did. -/
def varyCutUptoRow : OpenClaim := { program := "ytfhbeghmlfjfjaa", sum := "e69af6da53a9d3b1c5f3c695d53dd9f46e353c3a2b6e3265cc3a96421ec0c722", func := "creel/creellaw01.VaryCut", spec := "varyCut", apart := false, narrowed := true }
def VaryCutUptoSaid : Prop := varyCutUptoRow.holds Try.pinned (OpenSpec.upto varyCutSpec)

/-- 'creellaw01.VaryLen', WHERE WHAT IT READS IS OF BULK AT MOST 1048576: true; the input reads as it did. -/
def varyLenUptoRow : OpenClaim := { program := "ytfhbeghmlfjfjaa", sum := "e69af6da53a9d3b1c5f3c695d53dd9f46e353c3a2b6e3265cc3a96421ec0c722", func := "creel/creellaw01.VaryLen", spec := "varyLen", apart := false, narrowed := true }
def VaryLenUptoSaid : Prop := varyLenUptoRow.holds Try.pinned (OpenSpec.upto varyLenSpec)

/-- 'creellaw01.VarySigns', WHERE WHAT IT READS IS OF BULK AT MOST 1048576: true; the input reads as it did. -/
def varySignsUptoRow : OpenClaim := { program := "ytfhbeghmlfjfjaa", sum := "e69af6da53a9d3b1c5f3c695d53dd9f46e353c3a2b6e3265cc3a96421ec0c722", func := "creel/creellaw01.VarySigns", spec := "varySigns", apart := false, narrowed := true }
def VarySignsUptoSaid : Prop := varySignsUptoRow.holds Try.pinned (OpenSpec.upto varySignsSpec)

/-- 'creellaw01.VaryTakes', WHERE WHAT IT READS IS OF BULK AT MOST 1048576: true; the input reads as it did. -/
def varyTakesUptoRow : OpenClaim := { program := "ytfhbeghmlfjfjaa", sum := "e69af6da53a9d3b1c5f3c695d53dd9f46e353c3a2b6e3265cc3a96421ec0c722", func := "creel/creellaw01.VaryTakes", spec := "varyTakes", apart := false, narrowed := true }
def VaryTakesUptoSaid : Prop := varyTakesUptoRow.holds Try.pinned (OpenSpec.upto varyTakesSpec)

/-- 'creellaw01.VaryOrder', WHERE WHAT IT READS IS OF BULK AT MOST 1048576: true; the input reads as it did. -/
def varyOrderUptoRow : OpenClaim := { program := "ytfhbeghmlfjfjaa", sum := "e69af6da53a9d3b1c5f3c695d53dd9f46e353c3a2b6e3265cc3a96421ec0c722", func := "creel/creellaw01.VaryOrder", spec := "varyOrder", apart := false, narrowed := true }
def VaryOrderUptoSaid : Prop := varyOrderUptoRow.holds Try.pinned (OpenSpec.upto varyOrderSpec)

end Rows
end Go.Proofs.Ytfhbeghmlfjfjaa
