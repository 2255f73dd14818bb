/-
  NARROWER THAN 'FOR EVERY INPUT', by the rows' own cells (each row's printed sentence says how): NandOrder: laid · NandTorn: laid · NandKept: laid · NandBad: laid · NandNil: laid.
  DERIVED. THE GIVEN ROWS OF THIS SEAT. 5 by the template 'for every input the law returns true; each argument reads behind the call as it read before'; 0 by the template 'total and deterministic' (their statements: YtfnoojhnhkodaaaDoorTotals.lean).
  GIVEN WITH THE SEED: the statements are not yours to turn. If you find one false, say at which input.
  Laid BY PROGRAM, IN A SANDBOX (cutbox-rows.mjs): the forced cells as the released guide's own fill.sh prints them over the translation 9d9d7c7ae1a063a7… (all of the seat's roots in one cut). By AI agents, Wed Nov 11 2026. No macro, syntax, notation, axiom, sorry.
-/
import Derived.Test.YtfnoojhnhkodaaaDoorChecked
import GoSem.Claim
import GoSem.ClaimJoined
import GoSem.ClaimMapViews
import Derived.JoinedTies
import Derived.KernelRfl
namespace Go.Proofs.YtfnoojhnhkodaaaDoor
/- THE CELL 'sum', in the pinned program and in every row, IS THE sha256 OF THE DUMP (.gsa) THAT YtfnoojhnhkodaaaDoorProg.lean LOADS. Nothing in Lean hashes anything: it is a label: what it is worth is what the hold of that sum in a sandbox is worth. -/
noncomputable def Tryd.pinned : Pinned := { name := "ytfnoojhnhkodaaadoor", sum := "9d9d7c7ae1a063a73cd7b9fbcfbd54344d4b024dd77abb0744b1e085f330b05e", checked := Tryd.checked }
namespace Rows
def none {H : Type} : Left H := { results := [], args := [] }

/- WHAT THE LISTED PACKAGE-LEVEL VARIABLES READ AS WHEN THE CALL BEGINS. Each datum BY PROGRAM (the guide's laid-datum.mjs) off the statement by which the dump's own 'gosem.cut.vars' lays the variable. In a bare row this is a premise. The card (YtfnoojhnhkodaaaDoorCards.lean) ties it to the program's text. -/
def laid_errors_errorType {H : Type} : DataW H := .iface "internal/reflectlite.rtype" (.agg [.ptr (.lit (.string [101, 114, 114, 111, 114]))])

/-- 'scorialaw04.NandOrder': WHATEVER THE INPUT: true; the input reads as it did. -/
def nandOrderSpec : ChangeSpec := { name := "nandOrder", fn := fun _ => fun
  | [d] => { results := [.lit (.bool true)], args := [d] }
  | _ => none }
def nandOrderRow : OpenClaim := { program := "ytfnoojhnhkodaaadoor", sum := "9d9d7c7ae1a063a73cd7b9fbcfbd54344d4b024dd77abb0744b1e085f330b05e", func := "scoria/scorialaw04.NandOrder", spec := "nandOrder", inPlace := ["internal/reflectlite.ValueOf", "(internal/reflectlite.Value).Type", "(internal/reflectlite.Value).IsNil", "internal/reflectlite.TypeOf", "(internal/reflectlite.Value).Elem", "(internal/reflectlite.Value).Set"], unfollowed := true, recurses := true, named := ["errors.errorType"], apart := false, laid := [("errors.errorType", laid_errors_errorType)] }
def NandOrderSaid : Prop := nandOrderRow.holds Tryd.pinned (OpenSpec.ofChange nandOrderSpec)

/-- ITS FALSE NEIGHBOUR: 'it returns false'. Refute it at one input. -/
def nandOrderWrong : ChangeSpec := { name := "nandOrder", fn := fun _ => fun
  | [d] => { results := [.lit (.bool false)], args := [d] }
  | _ => none }
def NandOrderWrongFalsely : Prop := nandOrderRow.holds Tryd.pinned (OpenSpec.ofChange nandOrderWrong)

/-- 'scorialaw04.NandTorn': WHATEVER THE INPUT: true; the input reads as it did. -/
def nandTornSpec : ChangeSpec := { name := "nandTorn", fn := fun _ => fun
  | [d1, d2, d3] => { results := [.lit (.bool true)], args := [d1, d2, d3] }
  | _ => none }
def nandTornRow : OpenClaim := { program := "ytfnoojhnhkodaaadoor", sum := "9d9d7c7ae1a063a73cd7b9fbcfbd54344d4b024dd77abb0744b1e085f330b05e", func := "scoria/scorialaw04.NandTorn", spec := "nandTorn", inPlace := ["internal/reflectlite.ValueOf", "(internal/reflectlite.Value).Type", "(internal/reflectlite.Value).IsNil", "internal/reflectlite.TypeOf", "(internal/reflectlite.Value).Elem", "(internal/reflectlite.Value).Set"], unfollowed := true, recurses := true, named := ["errors.errorType"], apart := false, laid := [("errors.errorType", laid_errors_errorType)] }
def NandTornSaid : Prop := nandTornRow.holds Tryd.pinned (OpenSpec.ofChange nandTornSpec)

/-- ITS FALSE NEIGHBOUR: 'it returns false'. Refute it at one input. -/
def nandTornWrong : ChangeSpec := { name := "nandTorn", fn := fun _ => fun
  | [d1, d2, d3] => { results := [.lit (.bool false)], args := [d1, d2, d3] }
  | _ => none }
def NandTornWrongFalsely : Prop := nandTornRow.holds Tryd.pinned (OpenSpec.ofChange nandTornWrong)

/-- 'scorialaw04.NandKept': WHATEVER THE INPUT: true; the input reads as it did. -/
def nandKeptSpec : ChangeSpec := { name := "nandKept", fn := fun _ => fun
  | [d1, d2] => { results := [.lit (.bool true)], args := [d1, d2] }
  | _ => none }
def nandKeptRow : OpenClaim := { program := "ytfnoojhnhkodaaadoor", sum := "9d9d7c7ae1a063a73cd7b9fbcfbd54344d4b024dd77abb0744b1e085f330b05e", func := "scoria/scorialaw04.NandKept", spec := "nandKept", inPlace := ["internal/reflectlite.ValueOf", "(internal/reflectlite.Value).Type", "(internal/reflectlite.Value).IsNil", "internal/reflectlite.TypeOf", "(internal/reflectlite.Value).Elem", "(internal/reflectlite.Value).Set"], unfollowed := true, recurses := true, named := ["errors.errorType"], apart := false, laid := [("errors.errorType", laid_errors_errorType)] }
def NandKeptSaid : Prop := nandKeptRow.holds Tryd.pinned (OpenSpec.ofChange nandKeptSpec)

/-- ITS FALSE NEIGHBOUR: 'it returns false'. Refute it at one input. -/
def nandKeptWrong : ChangeSpec := { name := "nandKept", fn := fun _ => fun
  | [d1, d2] => { results := [.lit (.bool false)], args := [d1, d2] }
  | _ => none }
def NandKeptWrongFalsely : Prop := nandKeptRow.holds Tryd.pinned (OpenSpec.ofChange nandKeptWrong)

/-- 'scorialaw04.NandBad': WHATEVER THE INPUT: true; the input reads as it did. -/
def nandBadSpec : ChangeSpec := { name := "nandBad", fn := fun _ => fun
  | [d1, d2, d3] => { results := [.lit (.bool true)], args := [d1, d2, d3] }
  | _ => none }
def nandBadRow : OpenClaim := { program := "ytfnoojhnhkodaaadoor", sum := "9d9d7c7ae1a063a73cd7b9fbcfbd54344d4b024dd77abb0744b1e085f330b05e", func := "scoria/scorialaw04.NandBad", spec := "nandBad", inPlace := ["internal/reflectlite.ValueOf", "(internal/reflectlite.Value).Type", "(internal/reflectlite.Value).IsNil", "internal/reflectlite.TypeOf", "(internal/reflectlite.Value).Elem", "(internal/reflectlite.Value).Set"], unfollowed := true, recurses := true, named := ["errors.errorType"], apart := false, laid := [("errors.errorType", laid_errors_errorType)] }
def NandBadSaid : Prop := nandBadRow.holds Tryd.pinned (OpenSpec.ofChange nandBadSpec)

/-- ITS FALSE NEIGHBOUR: 'it returns false'. Refute it at one input. -/
def nandBadWrong : ChangeSpec := { name := "nandBad", fn := fun _ => fun
  | [d1, d2, d3] => { results := [.lit (.bool false)], args := [d1, d2, d3] }
  | _ => none }
def NandBadWrongFalsely : Prop := nandBadRow.holds Tryd.pinned (OpenSpec.ofChange nandBadWrong)

/-- 'scorialaw04.NandNil': WHATEVER THE INPUT: true; the input reads as it did. -/
def nandNilSpec : ChangeSpec := { name := "nandNil", fn := fun _ => fun
  | [d1, d2, d3] => { results := [.lit (.bool true)], args := [d1, d2, d3] }
  | _ => none }
def nandNilRow : OpenClaim := { program := "ytfnoojhnhkodaaadoor", sum := "9d9d7c7ae1a063a73cd7b9fbcfbd54344d4b024dd77abb0744b1e085f330b05e", func := "scoria/scorialaw04.NandNil", spec := "nandNil", inPlace := ["internal/reflectlite.ValueOf", "(internal/reflectlite.Value).Type", "(internal/reflectlite.Value).IsNil", "internal/reflectlite.TypeOf", "(internal/reflectlite.Value).Elem", "(internal/reflectlite.Value).Set"], unfollowed := true, recurses := true, named := ["errors.errorType"], apart := false, laid := [("errors.errorType", laid_errors_errorType)] }
def NandNilSaid : Prop := nandNilRow.holds Tryd.pinned (OpenSpec.ofChange nandNilSpec)

/-- ITS FALSE NEIGHBOUR: 'it returns false'. Refute it at one input. -/
def nandNilWrong : ChangeSpec := { name := "nandNil", fn := fun _ => fun
  | [d1, d2, d3] => { results := [.lit (.bool false)], args := [d1, d2, d3] }
  | _ => none }
def NandNilWrongFalsely : Prop := nandNilRow.holds Tryd.pinned (OpenSpec.ofChange nandNilWrong)

/- THE SECOND FORM. 'bulk': how many values and letters a reading holds, each counted each time it is reached (what is shared counts as often as it is met; a slice's spare places count too). A statement '..UptoSaid' is the law's where the arguments, and the package variables that the reading takes, are together of bulk at most 1048576: NARROWER than '..Said'. Prove '..Said' where nothing that the law and all that it calls make is longer than what came in: it says more and counts as full. Else prove '..UptoSaid'. A law counts once. -/
mutual
def uptoBulk {H : Type} : DataW H → Nat
  | .lit (.string bytes) => bytes.length + 1
  | .lit _ => 1
  | .nil => 1
  | .ptr d => uptoBulk d + 1
  | .slice elems spare => uptoBulkAll elems + uptoBulkAll spare + 1
  | .agg parts => uptoBulkAll parts + 1
  | .iface _ d => uptoBulk d + 1
  | .map entries => uptoBulkEntries entries + 1
  | .held _ => 1
def uptoBulkAll {H : Type} : List (DataW H) → Nat
  | [] => 0
  | d :: r => uptoBulk d + uptoBulkAll r
def uptoBulkEntries {H : Type} : List (Lit × DataW H) → Nat
  | [] => 0
  | x :: r => uptoBulkEntry x + uptoBulkEntries r
def uptoBulkEntry {H : Type} : Lit × DataW H → Nat
  | (.string bytes, d) => bytes.length + uptoBulk d + 1
  | (_, d) => uptoBulk d + 1
 end
def uptoSmall : (H : Type) → List (DataW H) → Bool := fun _ ds => decide (uptoBulkAll ds ≤ 1048576)
def OpenSpec.upto (s : _root_.Go.ChangeSpec) : _root_.Go.OpenSpec := { _root_.Go.OpenSpec.ofChange s with cond := some uptoSmall }

/-- 'scorialaw04.NandOrder', WHERE WHAT IT READS IS OF BULK AT MOST 1048576: true; the input reads as it did. -/
def nandOrderUptoRow : OpenClaim := { program := "ytfnoojhnhkodaaadoor", sum := "9d9d7c7ae1a063a73cd7b9fbcfbd54344d4b024dd77abb0744b1e085f330b05e", func := "scoria/scorialaw04.NandOrder", spec := "nandOrder", inPlace := ["internal/reflectlite.ValueOf", "(internal/reflectlite.Value).Type", "(internal/reflectlite.Value).IsNil", "internal/reflectlite.TypeOf", "(internal/reflectlite.Value).Elem", "(internal/reflectlite.Value).Set"], unfollowed := true, recurses := true, named := ["errors.errorType"], apart := false, laid := [("errors.errorType", laid_errors_errorType)], narrowed := true }
def NandOrderUptoSaid : Prop := nandOrderUptoRow.holds Tryd.pinned (OpenSpec.upto nandOrderSpec)

/-- 'scorialaw04.NandTorn', WHERE WHAT IT READS IS OF BULK AT MOST 1048576: true; the input reads as it did. -/
def nandTornUptoRow : OpenClaim := { program := "ytfnoojhnhkodaaadoor", sum := "9d9d7c7ae1a063a73cd7b9fbcfbd54344d4b024dd77abb0744b1e085f330b05e", func := "scoria/scorialaw04.NandTorn", spec := "nandTorn", inPlace := ["internal/reflectlite.ValueOf", "(internal/reflectlite.Value).Type", "(internal/reflectlite.Value).IsNil", "internal/reflectlite.TypeOf", "(internal/reflectlite.Value).Elem", "(internal/reflectlite.Value).Set"], unfollowed := true, recurses := true, named := ["errors.errorType"], apart := false, laid := [("errors.errorType", laid_errors_errorType)], narrowed := true }
def NandTornUptoSaid : Prop := nandTornUptoRow.holds Tryd.pinned (OpenSpec.upto nandTornSpec)

/-- 'scorialaw04.NandKept', WHERE WHAT IT READS IS OF BULK AT MOST 1048576: true; the input reads as it did. -/
def nandKeptUptoRow : OpenClaim := { program := "ytfnoojhnhkodaaadoor", sum := "9d9d7c7ae1a063a73cd7b9fbcfbd54344d4b024dd77abb0744b1e085f330b05e", func := "scoria/scorialaw04.NandKept", spec := "nandKept", inPlace := ["internal/reflectlite.ValueOf", "(internal/reflectlite.Value).Type", "(internal/reflectlite.Value).IsNil", "internal/reflectlite.TypeOf", "(internal/reflectlite.Value).Elem", "(internal/reflectlite.Value).Set"], unfollowed := true, recurses := true, named := ["errors.errorType"], apart := false, laid := [("errors.errorType", laid_errors_errorType)], narrowed := true }
def NandKeptUptoSaid : Prop := nandKeptUptoRow.holds Tryd.pinned (OpenSpec.upto nandKeptSpec)

/-- 'scorialaw04.NandBad', WHERE WHAT IT READS IS OF BULK AT MOST 1048576: true; the input reads as it did. -/
def nandBadUptoRow : OpenClaim := { program := "ytfnoojhnhkodaaadoor", sum := "9d9d7c7ae1a063a73cd7b9fbcfbd54344d4b024dd77abb0744b1e085f330b05e", func := "scoria/scorialaw04.NandBad", spec := "nandBad", inPlace := ["internal/reflectlite.ValueOf", "(internal/reflectlite.Value).Type", "(internal/reflectlite.Value).IsNil", "internal/reflectlite.TypeOf", "(internal/reflectlite.Value).Elem", "(internal/reflectlite.Value).Set"], unfollowed := true, recurses := true, named := ["errors.errorType"], apart := false, laid := [("errors.errorType", laid_errors_errorType)], narrowed := true }
def NandBadUptoSaid : Prop := nandBadUptoRow.holds Tryd.pinned (OpenSpec.upto nandBadSpec)

/-- 'scorialaw04.NandNil', WHERE WHAT IT READS IS OF BULK AT MOST 1048576: true; the input reads as it did. -/
def nandNilUptoRow : OpenClaim := { program := "ytfnoojhnhkodaaadoor", sum := "9d9d7c7ae1a063a73cd7b9fbcfbd54344d4b024dd77abb0744b1e085f330b05e", func := "scoria/scorialaw04.NandNil", spec := "nandNil", inPlace := ["internal/reflectlite.ValueOf", "(internal/reflectlite.Value).Type", "(internal/reflectlite.Value).IsNil", "internal/reflectlite.TypeOf", "(internal/reflectlite.Value).Elem", "(internal/reflectlite.Value).Set"], unfollowed := true, recurses := true, named := ["errors.errorType"], apart := false, laid := [("errors.errorType", laid_errors_errorType)], narrowed := true }
def NandNilUptoSaid : Prop := nandNilUptoRow.holds Tryd.pinned (OpenSpec.upto nandNilSpec)

end Rows
end Go.Proofs.YtfnoojhnhkodaaaDoor
