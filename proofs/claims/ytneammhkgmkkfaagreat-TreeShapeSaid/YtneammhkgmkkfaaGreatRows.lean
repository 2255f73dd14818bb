/-
  No cell of these rows narrows 'for every input' (looked for: loops, veiled, ifaces, maps, wideKeys, modest, calm, conditions, laid).
  DERIVED. THE GIVEN ROWS OF THIS SEAT. 9 by the template 'for every input the law returns true; each argument reads behind the call as it read before'; 0 by the template 'total and deterministic' (their statements: YtneammhkgmkkfaaGreatTotals.lean).
  GIVEN WITH THE SEED: the statements are not yours to turn. If you find one false, say at which input.
  Laid BY PROGRAM, IN A SANDBOX (cutbox-rows.mjs): the forced cells as the released guide's own fill.sh prints them over the translation a05ad422bbde60d3… (all of the seat's roots in one cut). By AI agents, Wed Nov 11 2026. No macro, syntax, notation, axiom, sorry.
-/
import Derived.Test.YtneammhkgmkkfaaGreatChecked
import GoSem.Claim
import GoSem.ClaimJoined
import GoSem.ClaimMapViews
import Derived.JoinedTies
import Derived.KernelRfl
namespace Go.Proofs.YtneammhkgmkkfaaGreat
/- THE CELL 'sum', in the pinned program and in every row, IS THE sha256 OF THE DUMP (.gsa) THAT YtneammhkgmkkfaaGreatProg.lean LOADS. Nothing in Lean hashes anything: it is a label: what it is worth is what the hold of that sum in a sandbox is worth. -/
noncomputable def Tryz.pinned : Pinned := { name := "ytneammhkgmkkfaagreat", sum := "a05ad422bbde60d37fdc257b03cc5c117083c78614f6d9455b7dca9f69a00f04", checked := Tryz.checked }
namespace Rows
def none {H : Type} : Left H := { results := [], args := [] }

/-- 'scorialaw10.TreeHigh': WHATEVER THE INPUT: true; the input reads as it did. -/
def treeHighSpec : ChangeSpec := { name := "treeHigh", fn := fun _ => fun
  | [d] => { results := [.lit (.bool true)], args := [d] }
  | _ => none }
def treeHighRow : OpenClaim := { program := "ytneammhkgmkkfaagreat", sum := "a05ad422bbde60d37fdc257b03cc5c117083c78614f6d9455b7dca9f69a00f04", func := "scoria/scorialaw10.TreeHigh", spec := "treeHigh", inPlace := ["slices.overlaps[scoria/api.Ext]", "slices.overlaps[scoria/tree.node]"], unfollowed := true, recurses := true, apart := false }
def TreeHighSaid : Prop := treeHighRow.holds Tryz.pinned (OpenSpec.ofChange treeHighSpec)

/-- ITS FALSE NEIGHBOUR: 'it returns false'. Refute it at one input. -/
def treeHighWrong : ChangeSpec := { name := "treeHigh", fn := fun _ => fun
  | [d] => { results := [.lit (.bool false)], args := [d] }
  | _ => none }
def TreeHighWrongFalsely : Prop := treeHighRow.holds Tryz.pinned (OpenSpec.ofChange treeHighWrong)

/-- 'scorialaw10.TreeEmpty': WHATEVER THE INPUT: true; the input reads as it did. -/
def treeEmptySpec : ChangeSpec := { name := "treeEmpty", fn := fun _ => fun
  | [d1, d2] => { results := [.lit (.bool true)], args := [d1, d2] }
  | _ => none }
def treeEmptyRow : OpenClaim := { program := "ytneammhkgmkkfaagreat", sum := "a05ad422bbde60d37fdc257b03cc5c117083c78614f6d9455b7dca9f69a00f04", func := "scoria/scorialaw10.TreeEmpty", spec := "treeEmpty", inPlace := ["slices.overlaps[scoria/api.Ext]", "slices.overlaps[scoria/tree.node]"], unfollowed := true, recurses := true, apart := false }
def TreeEmptySaid : Prop := treeEmptyRow.holds Tryz.pinned (OpenSpec.ofChange treeEmptySpec)

/-- ITS FALSE NEIGHBOUR: 'it returns false'. Refute it at one input. -/
def treeEmptyWrong : ChangeSpec := { name := "treeEmpty", fn := fun _ => fun
  | [d1, d2] => { results := [.lit (.bool false)], args := [d1, d2] }
  | _ => none }
def TreeEmptyWrongFalsely : Prop := treeEmptyRow.holds Tryz.pinned (OpenSpec.ofChange treeEmptyWrong)

/-- 'scorialaw10.TreeFinds': WHATEVER THE INPUT: true; the input reads as it did. -/
def treeFindsSpec : ChangeSpec := { name := "treeFinds", fn := fun _ => fun
  | [d1, d2, d3] => { results := [.lit (.bool true)], args := [d1, d2, d3] }
  | _ => none }
def treeFindsRow : OpenClaim := { program := "ytneammhkgmkkfaagreat", sum := "a05ad422bbde60d37fdc257b03cc5c117083c78614f6d9455b7dca9f69a00f04", func := "scoria/scorialaw10.TreeFinds", spec := "treeFinds", inPlace := ["slices.overlaps[scoria/api.Ext]", "slices.overlaps[scoria/tree.node]"], unfollowed := true, recurses := true, apart := false }
def TreeFindsSaid : Prop := treeFindsRow.holds Tryz.pinned (OpenSpec.ofChange treeFindsSpec)

/-- ITS FALSE NEIGHBOUR: 'it returns false'. Refute it at one input. -/
def treeFindsWrong : ChangeSpec := { name := "treeFinds", fn := fun _ => fun
  | [d1, d2, d3] => { results := [.lit (.bool false)], args := [d1, d2, d3] }
  | _ => none }
def TreeFindsWrongFalsely : Prop := treeFindsRow.holds Tryz.pinned (OpenSpec.ofChange treeFindsWrong)

/-- 'scorialaw10.TreeShape': WHATEVER THE INPUT: true; the input reads as it did. -/
def treeShapeSpec : ChangeSpec := { name := "treeShape", fn := fun _ => fun
  | [d] => { results := [.lit (.bool true)], args := [d] }
  | _ => none }
def treeShapeRow : OpenClaim := { program := "ytneammhkgmkkfaagreat", sum := "a05ad422bbde60d37fdc257b03cc5c117083c78614f6d9455b7dca9f69a00f04", func := "scoria/scorialaw10.TreeShape", spec := "treeShape", inPlace := ["slices.overlaps[scoria/api.Ext]", "slices.overlaps[scoria/tree.node]", "internal/abi.NoEscape"], unfollowed := true, recurses := true, apart := false }
def TreeShapeSaid : Prop := treeShapeRow.holds Tryz.pinned (OpenSpec.ofChange treeShapeSpec)

/-- ITS FALSE NEIGHBOUR: 'it returns false'. Refute it at one input. -/
def treeShapeWrong : ChangeSpec := { name := "treeShape", fn := fun _ => fun
  | [d] => { results := [.lit (.bool false)], args := [d] }
  | _ => none }
def TreeShapeWrongFalsely : Prop := treeShapeRow.holds Tryz.pinned (OpenSpec.ofChange treeShapeWrong)

/-- 'scorialaw10.TreeFew': WHATEVER THE INPUT: true; the input reads as it did. -/
def treeFewSpec : ChangeSpec := { name := "treeFew", fn := fun _ => fun
  | [d1, d2] => { results := [.lit (.bool true)], args := [d1, d2] }
  | _ => none }
def treeFewRow : OpenClaim := { program := "ytneammhkgmkkfaagreat", sum := "a05ad422bbde60d37fdc257b03cc5c117083c78614f6d9455b7dca9f69a00f04", func := "scoria/scorialaw10.TreeFew", spec := "treeFew", inPlace := ["slices.overlaps[scoria/api.Ext]", "slices.overlaps[scoria/tree.node]", "internal/abi.NoEscape"], unfollowed := true, recurses := true, apart := false }
def TreeFewSaid : Prop := treeFewRow.holds Tryz.pinned (OpenSpec.ofChange treeFewSpec)

/-- ITS FALSE NEIGHBOUR: 'it returns false'. Refute it at one input. -/
def treeFewWrong : ChangeSpec := { name := "treeFew", fn := fun _ => fun
  | [d1, d2] => { results := [.lit (.bool false)], args := [d1, d2] }
  | _ => none }
def TreeFewWrongFalsely : Prop := treeFewRow.holds Tryz.pinned (OpenSpec.ofChange treeFewWrong)

/-- 'scorialaw10.TreePlays': WHATEVER THE INPUT: true; the input reads as it did. -/
def treePlaysSpec : ChangeSpec := { name := "treePlays", fn := fun _ => fun
  | [d] => { results := [.lit (.bool true)], args := [d] }
  | _ => none }
def treePlaysRow : OpenClaim := { program := "ytneammhkgmkkfaagreat", sum := "a05ad422bbde60d37fdc257b03cc5c117083c78614f6d9455b7dca9f69a00f04", func := "scoria/scorialaw10.TreePlays", spec := "treePlays", inPlace := ["slices.overlaps[scoria/api.Ext]", "slices.overlaps[scoria/tree.node]", "internal/abi.NoEscape"], unfollowed := true, recurses := true, apart := false }
def TreePlaysSaid : Prop := treePlaysRow.holds Tryz.pinned (OpenSpec.ofChange treePlaysSpec)

/-- ITS FALSE NEIGHBOUR: 'it returns false'. Refute it at one input. -/
def treePlaysWrong : ChangeSpec := { name := "treePlays", fn := fun _ => fun
  | [d] => { results := [.lit (.bool false)], args := [d] }
  | _ => none }
def TreePlaysWrongFalsely : Prop := treePlaysRow.holds Tryz.pinned (OpenSpec.ofChange treePlaysWrong)

/-- 'scorialaw10.TreeMoved': WHATEVER THE INPUT: true; the input reads as it did. -/
def treeMovedSpec : ChangeSpec := { name := "treeMoved", fn := fun _ => fun
  | [d1, d2, d3] => { results := [.lit (.bool true)], args := [d1, d2, d3] }
  | _ => none }
def treeMovedRow : OpenClaim := { program := "ytneammhkgmkkfaagreat", sum := "a05ad422bbde60d37fdc257b03cc5c117083c78614f6d9455b7dca9f69a00f04", func := "scoria/scorialaw10.TreeMoved", spec := "treeMoved", inPlace := ["slices.overlaps[scoria/api.Ext]", "slices.overlaps[scoria/tree.node]", "internal/abi.NoEscape"], unfollowed := true, recurses := true, apart := false }
def TreeMovedSaid : Prop := treeMovedRow.holds Tryz.pinned (OpenSpec.ofChange treeMovedSpec)

/-- ITS FALSE NEIGHBOUR: 'it returns false'. Refute it at one input. -/
def treeMovedWrong : ChangeSpec := { name := "treeMoved", fn := fun _ => fun
  | [d1, d2, d3] => { results := [.lit (.bool false)], args := [d1, d2, d3] }
  | _ => none }
def TreeMovedWrongFalsely : Prop := treeMovedRow.holds Tryz.pinned (OpenSpec.ofChange treeMovedWrong)

/-- 'scorialaw10.TreeBack': WHATEVER THE INPUT: true; the input reads as it did. -/
def treeBackSpec : ChangeSpec := { name := "treeBack", fn := fun _ => fun
  | [d] => { results := [.lit (.bool true)], args := [d] }
  | _ => none }
def treeBackRow : OpenClaim := { program := "ytneammhkgmkkfaagreat", sum := "a05ad422bbde60d37fdc257b03cc5c117083c78614f6d9455b7dca9f69a00f04", func := "scoria/scorialaw10.TreeBack", spec := "treeBack", inPlace := ["slices.overlaps[scoria/api.Ext]", "slices.overlaps[scoria/tree.node]", "internal/abi.NoEscape"], unfollowed := true, recurses := true, apart := false }
def TreeBackSaid : Prop := treeBackRow.holds Tryz.pinned (OpenSpec.ofChange treeBackSpec)

/-- ITS FALSE NEIGHBOUR: 'it returns false'. Refute it at one input. -/
def treeBackWrong : ChangeSpec := { name := "treeBack", fn := fun _ => fun
  | [d] => { results := [.lit (.bool false)], args := [d] }
  | _ => none }
def TreeBackWrongFalsely : Prop := treeBackRow.holds Tryz.pinned (OpenSpec.ofChange treeBackWrong)

/-- 'scorialaw10.TreeCow': WHATEVER THE INPUT: true; the input reads as it did. -/
def treeCowSpec : ChangeSpec := { name := "treeCow", fn := fun _ => fun
  | [d1, d2] => { results := [.lit (.bool true)], args := [d1, d2] }
  | _ => none }
def treeCowRow : OpenClaim := { program := "ytneammhkgmkkfaagreat", sum := "a05ad422bbde60d37fdc257b03cc5c117083c78614f6d9455b7dca9f69a00f04", func := "scoria/scorialaw10.TreeCow", spec := "treeCow", inPlace := ["slices.overlaps[scoria/api.Ext]", "slices.overlaps[scoria/tree.node]", "internal/abi.NoEscape"], unfollowed := true, recurses := true, apart := false }
def TreeCowSaid : Prop := treeCowRow.holds Tryz.pinned (OpenSpec.ofChange treeCowSpec)

/-- ITS FALSE NEIGHBOUR: 'it returns false'. Refute it at one input. -/
def treeCowWrong : ChangeSpec := { name := "treeCow", fn := fun _ => fun
  | [d1, d2] => { results := [.lit (.bool false)], args := [d1, d2] }
  | _ => none }
def TreeCowWrongFalsely : Prop := treeCowRow.holds Tryz.pinned (OpenSpec.ofChange treeCowWrong)

/- THE SECOND FORM. 'bulk': how many values and letters a reading holds, each counted each time it is reached (what is shared counts as often as it is met; a slice's spare places count too). A statement '..UptoSaid' is the law's where the arguments, and the package variables that the reading takes, are together of bulk at most 1048576: NARROWER than '..Said'. Prove '..Said' where nothing that the law and all that it calls make is longer than what came in: it says more and counts as full. Else prove '..UptoSaid'. A law counts once. -/
mutual
def uptoBulk {H : Type} : DataW H → Nat
  | .lit (.string bytes) => bytes.length + 1
  | .lit _ => 1
  | .nil => 1
  | .ptr d => uptoBulk d + 1
  | .slice elems spare => uptoBulkAll elems + uptoBulkAll spare + 1
  | .agg parts => uptoBulkAll parts + 1
  | .iface _ d => uptoBulk d + 1
  | .map entries => uptoBulkEntries entries + 1
  | .held _ => 1
def uptoBulkAll {H : Type} : List (DataW H) → Nat
  | [] => 0
  | d :: r => uptoBulk d + uptoBulkAll r
def uptoBulkEntries {H : Type} : List (Lit × DataW H) → Nat
  | [] => 0
  | x :: r => uptoBulkEntry x + uptoBulkEntries r
def uptoBulkEntry {H : Type} : Lit × DataW H → Nat
  | (.string bytes, d) => bytes.length + uptoBulk d + 1
  | (_, d) => uptoBulk d + 1
 end
def uptoSmall : (H : Type) → List (DataW H) → Bool := fun _ ds => decide (uptoBulkAll ds ≤ 1048576)
def OpenSpec.upto (s : _root_.Go.ChangeSpec) : _root_.Go.OpenSpec := { _root_.Go.OpenSpec.ofChange s with cond := some uptoSmall }

/-- 'scorialaw10.TreeHigh', WHERE WHAT IT READS IS OF BULK AT MOST 1048576: true; the input reads as it did. -/
def treeHighUptoRow : OpenClaim := { program := "ytneammhkgmkkfaagreat", sum := "a05ad422bbde60d37fdc257b03cc5c117083c78614f6d9455b7dca9f69a00f04", func := "scoria/scorialaw10.TreeHigh", spec := "treeHigh", inPlace := ["slices.overlaps[scoria/api.Ext]", "slices.overlaps[scoria/tree.node]"], unfollowed := true, recurses := true, apart := false, narrowed := true }
def TreeHighUptoSaid : Prop := treeHighUptoRow.holds Tryz.pinned (OpenSpec.upto treeHighSpec)

/-- 'scorialaw10.TreeEmpty', WHERE WHAT IT READS IS OF BULK AT MOST 1048576: true; the input reads as it did. -/
def treeEmptyUptoRow : OpenClaim := { program := "ytneammhkgmkkfaagreat", sum := "a05ad422bbde60d37fdc257b03cc5c117083c78614f6d9455b7dca9f69a00f04", func := "scoria/scorialaw10.TreeEmpty", spec := "treeEmpty", inPlace := ["slices.overlaps[scoria/api.Ext]", "slices.overlaps[scoria/tree.node]"], unfollowed := true, recurses := true, apart := false, narrowed := true }
def TreeEmptyUptoSaid : Prop := treeEmptyUptoRow.holds Tryz.pinned (OpenSpec.upto treeEmptySpec)

/-- 'scorialaw10.TreeFinds', WHERE WHAT IT READS IS OF BULK AT MOST 1048576: true; the input reads as it did. -/
def treeFindsUptoRow : OpenClaim := { program := "ytneammhkgmkkfaagreat", sum := "a05ad422bbde60d37fdc257b03cc5c117083c78614f6d9455b7dca9f69a00f04", func := "scoria/scorialaw10.TreeFinds", spec := "treeFinds", inPlace := ["slices.overlaps[scoria/api.Ext]", "slices.overlaps[scoria/tree.node]"], unfollowed := true, recurses := true, apart := false, narrowed := true }
def TreeFindsUptoSaid : Prop := treeFindsUptoRow.holds Tryz.pinned (OpenSpec.upto treeFindsSpec)

/-- 'scorialaw10.TreeShape', WHERE WHAT IT READS IS OF BULK AT MOST 1048576: true; the input reads as it did. -/
def treeShapeUptoRow : OpenClaim := { program := "ytneammhkgmkkfaagreat", sum := "a05ad422bbde60d37fdc257b03cc5c117083c78614f6d9455b7dca9f69a00f04", func := "scoria/scorialaw10.TreeShape", spec := "treeShape", inPlace := ["slices.overlaps[scoria/api.Ext]", "slices.overlaps[scoria/tree.node]", "internal/abi.NoEscape"], unfollowed := true, recurses := true, apart := false, narrowed := true }
def TreeShapeUptoSaid : Prop := treeShapeUptoRow.holds Tryz.pinned (OpenSpec.upto treeShapeSpec)

/-- 'scorialaw10.TreeFew', WHERE WHAT IT READS IS OF BULK AT MOST 1048576: true; the input reads as it did. -/
def treeFewUptoRow : OpenClaim := { program := "ytneammhkgmkkfaagreat", sum := "a05ad422bbde60d37fdc257b03cc5c117083c78614f6d9455b7dca9f69a00f04", func := "scoria/scorialaw10.TreeFew", spec := "treeFew", inPlace := ["slices.overlaps[scoria/api.Ext]", "slices.overlaps[scoria/tree.node]", "internal/abi.NoEscape"], unfollowed := true, recurses := true, apart := false, narrowed := true }
def TreeFewUptoSaid : Prop := treeFewUptoRow.holds Tryz.pinned (OpenSpec.upto treeFewSpec)

/-- 'scorialaw10.TreePlays', WHERE WHAT IT READS IS OF BULK AT MOST 1048576: true; the input reads as it did. -/
def treePlaysUptoRow : OpenClaim := { program := "ytneammhkgmkkfaagreat", sum := "a05ad422bbde60d37fdc257b03cc5c117083c78614f6d9455b7dca9f69a00f04", func := "scoria/scorialaw10.TreePlays", spec := "treePlays", inPlace := ["slices.overlaps[scoria/api.Ext]", "slices.overlaps[scoria/tree.node]", "internal/abi.NoEscape"], unfollowed := true, recurses := true, apart := false, narrowed := true }
def TreePlaysUptoSaid : Prop := treePlaysUptoRow.holds Tryz.pinned (OpenSpec.upto treePlaysSpec)

/-- 'scorialaw10.TreeMoved', WHERE WHAT IT READS IS OF BULK AT MOST 1048576: true; the input reads as it did. -/
def treeMovedUptoRow : OpenClaim := { program := "ytneammhkgmkkfaagreat", sum := "a05ad422bbde60d37fdc257b03cc5c117083c78614f6d9455b7dca9f69a00f04", func := "scoria/scorialaw10.TreeMoved", spec := "treeMoved", inPlace := ["slices.overlaps[scoria/api.Ext]", "slices.overlaps[scoria/tree.node]", "internal/abi.NoEscape"], unfollowed := true, recurses := true, apart := false, narrowed := true }
def TreeMovedUptoSaid : Prop := treeMovedUptoRow.holds Tryz.pinned (OpenSpec.upto treeMovedSpec)

/-- 'scorialaw10.TreeBack', WHERE WHAT IT READS IS OF BULK AT MOST 1048576: true; the input reads as it did. -/
def treeBackUptoRow : OpenClaim := { program := "ytneammhkgmkkfaagreat", sum := "a05ad422bbde60d37fdc257b03cc5c117083c78614f6d9455b7dca9f69a00f04", func := "scoria/scorialaw10.TreeBack", spec := "treeBack", inPlace := ["slices.overlaps[scoria/api.Ext]", "slices.overlaps[scoria/tree.node]", "internal/abi.NoEscape"], unfollowed := true, recurses := true, apart := false, narrowed := true }
def TreeBackUptoSaid : Prop := treeBackUptoRow.holds Tryz.pinned (OpenSpec.upto treeBackSpec)

/-- 'scorialaw10.TreeCow', WHERE WHAT IT READS IS OF BULK AT MOST 1048576: true; the input reads as it did. -/
def treeCowUptoRow : OpenClaim := { program := "ytneammhkgmkkfaagreat", sum := "a05ad422bbde60d37fdc257b03cc5c117083c78614f6d9455b7dca9f69a00f04", func := "scoria/scorialaw10.TreeCow", spec := "treeCow", inPlace := ["slices.overlaps[scoria/api.Ext]", "slices.overlaps[scoria/tree.node]", "internal/abi.NoEscape"], unfollowed := true, recurses := true, apart := false, narrowed := true }
def TreeCowUptoSaid : Prop := treeCowUptoRow.holds Tryz.pinned (OpenSpec.upto treeCowSpec)

end Rows
end Go.Proofs.YtneammhkgmkkfaaGreat
