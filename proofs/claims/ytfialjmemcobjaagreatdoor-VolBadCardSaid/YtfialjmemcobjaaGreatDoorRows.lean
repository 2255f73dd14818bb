/-
  NARROWER THAN 'FOR EVERY INPUT', by the rows' own cells (each row's printed sentence says how): VolOpens: laid · VolNil: laid · VolPlays: laid · VolBad: laid · VolCrash: laid · VolBack: laid · VolNeeds: laid.
  DERIVED. THE GIVEN ROWS OF THIS SEAT. 7 by the template 'for every input the law returns true; each argument reads behind the call as it read before'; 0 by the template 'total and deterministic' (their statements: YtfialjmemcobjaaGreatDoorTotals.lean).
  GIVEN WITH THE SEED: the statements are not yours to turn. If you find one false, say at which input.
  Laid BY PROGRAM, IN A SANDBOX (cutbox-rows.mjs): the forced cells as the released guide's own fill.sh prints them over the translation 944ba774178e5ad9… (all of the seat's roots in one cut). By AI agents, Wed Nov 11 2026. No macro, syntax, notation, axiom, sorry.
-/
import Derived.Test.YtfialjmemcobjaaGreatDoorChecked
import GoSem.Claim
import GoSem.ClaimJoined
import GoSem.ClaimMapViews
import Derived.JoinedTies
import Derived.KernelRfl
namespace Go.Proofs.YtfialjmemcobjaaGreatDoor
/- THE CELL 'sum', in the pinned program and in every row, IS THE sha256 OF THE DUMP (.gsa) THAT YtfialjmemcobjaaGreatDoorProg.lean LOADS. Nothing in Lean hashes anything: it is a label: what it is worth is what the hold of that sum in a sandbox is worth. -/
noncomputable def Tryz.pinned : Pinned := { name := "ytfialjmemcobjaagreatdoor", sum := "944ba774178e5ad982f988ebc5c16731f2ecba02ae158c421a353ff1c5c087dd", checked := Tryz.checked }
namespace Rows
def none {H : Type} : Left H := { results := [], args := [] }

/- WHAT THE LISTED PACKAGE-LEVEL VARIABLES READ AS WHEN THE CALL BEGINS. Each datum BY PROGRAM (the guide's laid-datum.mjs) off the statement by which the dump's own 'gosem.cut.vars' lays the variable. In a bare row this is a premise. The card (YtfialjmemcobjaaGreatDoorCards.lean) ties it to the program's text. -/
def laid_errors_errorType {H : Type} : DataW H := .iface "internal/reflectlite.rtype" (.agg [.ptr (.lit (.string [101, 114, 114, 111, 114]))])

/-- 'scorialaw14.VolOpens': WHATEVER THE INPUT: true; the input reads as it did. -/
def volOpensSpec : ChangeSpec := { name := "volOpens", fn := fun _ => fun
  | [d] => { results := [.lit (.bool true)], args := [d] }
  | _ => none }
def volOpensRow : OpenClaim := { program := "ytfialjmemcobjaagreatdoor", sum := "944ba774178e5ad982f988ebc5c16731f2ecba02ae158c421a353ff1c5c087dd", func := "scoria/scorialaw14.VolOpens", spec := "volOpens", inPlace := ["internal/reflectlite.ValueOf", "(internal/reflectlite.Value).Type", "(internal/reflectlite.Value).IsNil", "internal/reflectlite.TypeOf", "(internal/reflectlite.Value).Elem", "(internal/reflectlite.Value).Set", "internal/abi.NoEscape", "slices.overlaps[scoria/api.Ext]", "slices.overlaps[scoria/tree.node]", "internal/bytealg.MakeNoZero"], unfollowed := true, recurses := true, named := ["errors.errorType"], apart := false, laid := [("errors.errorType", laid_errors_errorType)] }
def VolOpensSaid : Prop := volOpensRow.holds Tryz.pinned (OpenSpec.ofChange volOpensSpec)

/-- ITS FALSE NEIGHBOUR: 'it returns false'. Refute it at one input. -/
def volOpensWrong : ChangeSpec := { name := "volOpens", fn := fun _ => fun
  | [d] => { results := [.lit (.bool false)], args := [d] }
  | _ => none }
def VolOpensWrongFalsely : Prop := volOpensRow.holds Tryz.pinned (OpenSpec.ofChange volOpensWrong)

/-- 'scorialaw14.VolNil': WHATEVER THE INPUT: true; the input reads as it did. -/
def volNilSpec : ChangeSpec := { name := "volNil", fn := fun _ => fun
  | [d1, d2, d3] => { results := [.lit (.bool true)], args := [d1, d2, d3] }
  | _ => none }
def volNilRow : OpenClaim := { program := "ytfialjmemcobjaagreatdoor", sum := "944ba774178e5ad982f988ebc5c16731f2ecba02ae158c421a353ff1c5c087dd", func := "scoria/scorialaw14.VolNil", spec := "volNil", inPlace := ["internal/abi.NoEscape", "internal/bytealg.MakeNoZero", "internal/reflectlite.ValueOf", "(internal/reflectlite.Value).Type", "(internal/reflectlite.Value).IsNil", "internal/reflectlite.TypeOf", "(internal/reflectlite.Value).Elem", "(internal/reflectlite.Value).Set", "slices.overlaps[scoria/api.Ext]", "slices.overlaps[scoria/tree.node]"], unfollowed := true, recurses := true, named := ["errors.errorType"], apart := false, laid := [("errors.errorType", laid_errors_errorType)] }
def VolNilSaid : Prop := volNilRow.holds Tryz.pinned (OpenSpec.ofChange volNilSpec)

/-- ITS FALSE NEIGHBOUR: 'it returns false'. Refute it at one input. -/
def volNilWrong : ChangeSpec := { name := "volNil", fn := fun _ => fun
  | [d1, d2, d3] => { results := [.lit (.bool false)], args := [d1, d2, d3] }
  | _ => none }
def VolNilWrongFalsely : Prop := volNilRow.holds Tryz.pinned (OpenSpec.ofChange volNilWrong)

/-- 'scorialaw14.VolPlays': WHATEVER THE INPUT: true; the input reads as it did. -/
def volPlaysSpec : ChangeSpec := { name := "volPlays", fn := fun _ => fun
  | [d] => { results := [.lit (.bool true)], args := [d] }
  | _ => none }
def volPlaysRow : OpenClaim := { program := "ytfialjmemcobjaagreatdoor", sum := "944ba774178e5ad982f988ebc5c16731f2ecba02ae158c421a353ff1c5c087dd", func := "scoria/scorialaw14.VolPlays", spec := "volPlays", inPlace := ["internal/reflectlite.ValueOf", "(internal/reflectlite.Value).Type", "(internal/reflectlite.Value).IsNil", "internal/reflectlite.TypeOf", "(internal/reflectlite.Value).Elem", "(internal/reflectlite.Value).Set", "internal/abi.NoEscape", "slices.overlaps[scoria/api.Ext]", "slices.overlaps[scoria/tree.node]", "internal/bytealg.MakeNoZero"], unfollowed := true, recurses := true, named := ["errors.errorType"], apart := false, laid := [("errors.errorType", laid_errors_errorType)] }
def VolPlaysSaid : Prop := volPlaysRow.holds Tryz.pinned (OpenSpec.ofChange volPlaysSpec)

/-- ITS FALSE NEIGHBOUR: 'it returns false'. Refute it at one input. -/
def volPlaysWrong : ChangeSpec := { name := "volPlays", fn := fun _ => fun
  | [d] => { results := [.lit (.bool false)], args := [d] }
  | _ => none }
def VolPlaysWrongFalsely : Prop := volPlaysRow.holds Tryz.pinned (OpenSpec.ofChange volPlaysWrong)

/-- 'scorialaw14.VolBad': WHATEVER THE INPUT: true; the input reads as it did. -/
def volBadSpec : ChangeSpec := { name := "volBad", fn := fun _ => fun
  | [d1, d2, d3] => { results := [.lit (.bool true)], args := [d1, d2, d3] }
  | _ => none }
def volBadRow : OpenClaim := { program := "ytfialjmemcobjaagreatdoor", sum := "944ba774178e5ad982f988ebc5c16731f2ecba02ae158c421a353ff1c5c087dd", func := "scoria/scorialaw14.VolBad", spec := "volBad", inPlace := ["internal/reflectlite.ValueOf", "(internal/reflectlite.Value).Type", "(internal/reflectlite.Value).IsNil", "internal/reflectlite.TypeOf", "(internal/reflectlite.Value).Elem", "(internal/reflectlite.Value).Set", "internal/abi.NoEscape", "slices.overlaps[scoria/api.Ext]", "slices.overlaps[scoria/tree.node]", "internal/bytealg.MakeNoZero"], unfollowed := true, recurses := true, named := ["errors.errorType"], apart := false, laid := [("errors.errorType", laid_errors_errorType)] }
def VolBadSaid : Prop := volBadRow.holds Tryz.pinned (OpenSpec.ofChange volBadSpec)

/-- ITS FALSE NEIGHBOUR: 'it returns false'. Refute it at one input. -/
def volBadWrong : ChangeSpec := { name := "volBad", fn := fun _ => fun
  | [d1, d2, d3] => { results := [.lit (.bool false)], args := [d1, d2, d3] }
  | _ => none }
def VolBadWrongFalsely : Prop := volBadRow.holds Tryz.pinned (OpenSpec.ofChange volBadWrong)

/-- 'scorialaw14.VolCrash': WHATEVER THE INPUT: true; the input reads as it did. -/
def volCrashSpec : ChangeSpec := { name := "volCrash", fn := fun _ => fun
  | [d1, d2, d3] => { results := [.lit (.bool true)], args := [d1, d2, d3] }
  | _ => none }
def volCrashRow : OpenClaim := { program := "ytfialjmemcobjaagreatdoor", sum := "944ba774178e5ad982f988ebc5c16731f2ecba02ae158c421a353ff1c5c087dd", func := "scoria/scorialaw14.VolCrash", spec := "volCrash", inPlace := ["internal/reflectlite.ValueOf", "(internal/reflectlite.Value).Type", "(internal/reflectlite.Value).IsNil", "internal/reflectlite.TypeOf", "(internal/reflectlite.Value).Elem", "(internal/reflectlite.Value).Set", "internal/abi.NoEscape", "slices.overlaps[scoria/api.Ext]", "slices.overlaps[scoria/tree.node]", "internal/bytealg.MakeNoZero"], unfollowed := true, recurses := true, named := ["errors.errorType"], apart := false, laid := [("errors.errorType", laid_errors_errorType)] }
def VolCrashSaid : Prop := volCrashRow.holds Tryz.pinned (OpenSpec.ofChange volCrashSpec)

/-- ITS FALSE NEIGHBOUR: 'it returns false'. Refute it at one input. -/
def volCrashWrong : ChangeSpec := { name := "volCrash", fn := fun _ => fun
  | [d1, d2, d3] => { results := [.lit (.bool false)], args := [d1, d2, d3] }
  | _ => none }
def VolCrashWrongFalsely : Prop := volCrashRow.holds Tryz.pinned (OpenSpec.ofChange volCrashWrong)

/-- 'scorialaw14.VolBack': WHATEVER THE INPUT: true; the input reads as it did. -/
def volBackSpec : ChangeSpec := { name := "volBack", fn := fun _ => fun
  | [d1, d2] => { results := [.lit (.bool true)], args := [d1, d2] }
  | _ => none }
def volBackRow : OpenClaim := { program := "ytfialjmemcobjaagreatdoor", sum := "944ba774178e5ad982f988ebc5c16731f2ecba02ae158c421a353ff1c5c087dd", func := "scoria/scorialaw14.VolBack", spec := "volBack", inPlace := ["internal/reflectlite.ValueOf", "(internal/reflectlite.Value).Type", "(internal/reflectlite.Value).IsNil", "internal/reflectlite.TypeOf", "(internal/reflectlite.Value).Elem", "(internal/reflectlite.Value).Set", "internal/abi.NoEscape", "slices.overlaps[scoria/api.Ext]", "slices.overlaps[scoria/tree.node]", "internal/bytealg.MakeNoZero"], unfollowed := true, recurses := true, named := ["errors.errorType"], apart := false, laid := [("errors.errorType", laid_errors_errorType)] }
def VolBackSaid : Prop := volBackRow.holds Tryz.pinned (OpenSpec.ofChange volBackSpec)

/-- ITS FALSE NEIGHBOUR: 'it returns false'. Refute it at one input. -/
def volBackWrong : ChangeSpec := { name := "volBack", fn := fun _ => fun
  | [d1, d2] => { results := [.lit (.bool false)], args := [d1, d2] }
  | _ => none }
def VolBackWrongFalsely : Prop := volBackRow.holds Tryz.pinned (OpenSpec.ofChange volBackWrong)

/-- 'scorialaw14.VolNeeds': WHATEVER THE INPUT: true; the input reads as it did. -/
def volNeedsSpec : ChangeSpec := { name := "volNeeds", fn := fun _ => fun
  | [d] => { results := [.lit (.bool true)], args := [d] }
  | _ => none }
def volNeedsRow : OpenClaim := { program := "ytfialjmemcobjaagreatdoor", sum := "944ba774178e5ad982f988ebc5c16731f2ecba02ae158c421a353ff1c5c087dd", func := "scoria/scorialaw14.VolNeeds", spec := "volNeeds", inPlace := ["internal/reflectlite.ValueOf", "(internal/reflectlite.Value).Type", "(internal/reflectlite.Value).IsNil", "internal/reflectlite.TypeOf", "(internal/reflectlite.Value).Elem", "(internal/reflectlite.Value).Set", "internal/abi.NoEscape", "slices.overlaps[scoria/api.Ext]", "slices.overlaps[scoria/tree.node]", "internal/bytealg.MakeNoZero"], unfollowed := true, recurses := true, named := ["errors.errorType"], apart := false, laid := [("errors.errorType", laid_errors_errorType)] }
def VolNeedsSaid : Prop := volNeedsRow.holds Tryz.pinned (OpenSpec.ofChange volNeedsSpec)

/-- ITS FALSE NEIGHBOUR: 'it returns false'. Refute it at one input. -/
def volNeedsWrong : ChangeSpec := { name := "volNeeds", fn := fun _ => fun
  | [d] => { results := [.lit (.bool false)], args := [d] }
  | _ => none }
def VolNeedsWrongFalsely : Prop := volNeedsRow.holds Tryz.pinned (OpenSpec.ofChange volNeedsWrong)

/- THE SECOND FORM. 'bulk': how many values and letters a reading holds, each counted each time it is reached (what is shared counts as often as it is met; a slice's spare places count too). A statement '..UptoSaid' is the law's where the arguments, and the package variables that the reading takes, are together of bulk at most 1048576: NARROWER than '..Said'. Prove '..Said' where nothing that the law and all that it calls make is longer than what came in: it says more and counts as full. Else prove '..UptoSaid'. A law counts once. -/
mutual
def uptoBulk {H : Type} : DataW H → Nat
  | .lit (.string bytes) => bytes.length + 1
  | .lit _ => 1
  | .nil => 1
  | .ptr d => uptoBulk d + 1
  | .slice elems spare => uptoBulkAll elems + uptoBulkAll spare + 1
  | .agg parts => uptoBulkAll parts + 1
  | .iface _ d => uptoBulk d + 1
  | .map entries => uptoBulkEntries entries + 1
  | .held _ => 1
def uptoBulkAll {H : Type} : List (DataW H) → Nat
  | [] => 0
  | d :: r => uptoBulk d + uptoBulkAll r
def uptoBulkEntries {H : Type} : List (Lit × DataW H) → Nat
  | [] => 0
  | x :: r => uptoBulkEntry x + uptoBulkEntries r
def uptoBulkEntry {H : Type} : Lit × DataW H → Nat
  | (.string bytes, d) => bytes.length + uptoBulk d + 1
  | (_, d) => uptoBulk d + 1
 end
def uptoSmall : (H : Type) → List (DataW H) → Bool := fun _ ds => decide (uptoBulkAll ds ≤ 1048576)
def OpenSpec.upto (s : _root_.Go.ChangeSpec) : _root_.Go.OpenSpec := { _root_.Go.OpenSpec.ofChange s with cond := some uptoSmall }

/-- 'scorialaw14.VolOpens', WHERE WHAT IT READS IS OF BULK AT MOST 1048576: true; the input reads as it did. -/
def volOpensUptoRow : OpenClaim := { program := "ytfialjmemcobjaagreatdoor", sum := "944ba774178e5ad982f988ebc5c16731f2ecba02ae158c421a353ff1c5c087dd", func := "scoria/scorialaw14.VolOpens", spec := "volOpens", inPlace := ["internal/reflectlite.ValueOf", "(internal/reflectlite.Value).Type", "(internal/reflectlite.Value).IsNil", "internal/reflectlite.TypeOf", "(internal/reflectlite.Value).Elem", "(internal/reflectlite.Value).Set", "internal/abi.NoEscape", "slices.overlaps[scoria/api.Ext]", "slices.overlaps[scoria/tree.node]", "internal/bytealg.MakeNoZero"], unfollowed := true, recurses := true, named := ["errors.errorType"], apart := false, laid := [("errors.errorType", laid_errors_errorType)], narrowed := true }
def VolOpensUptoSaid : Prop := volOpensUptoRow.holds Tryz.pinned (OpenSpec.upto volOpensSpec)

/-- 'scorialaw14.VolNil', WHERE WHAT IT READS IS OF BULK AT MOST 1048576: true; the input reads as it did. -/
def volNilUptoRow : OpenClaim := { program := "ytfialjmemcobjaagreatdoor", sum := "944ba774178e5ad982f988ebc5c16731f2ecba02ae158c421a353ff1c5c087dd", func := "scoria/scorialaw14.VolNil", spec := "volNil", inPlace := ["internal/abi.NoEscape", "internal/bytealg.MakeNoZero", "internal/reflectlite.ValueOf", "(internal/reflectlite.Value).Type", "(internal/reflectlite.Value).IsNil", "internal/reflectlite.TypeOf", "(internal/reflectlite.Value).Elem", "(internal/reflectlite.Value).Set", "slices.overlaps[scoria/api.Ext]", "slices.overlaps[scoria/tree.node]"], unfollowed := true, recurses := true, named := ["errors.errorType"], apart := false, laid := [("errors.errorType", laid_errors_errorType)], narrowed := true }
def VolNilUptoSaid : Prop := volNilUptoRow.holds Tryz.pinned (OpenSpec.upto volNilSpec)

/-- 'scorialaw14.VolPlays', WHERE WHAT IT READS IS OF BULK AT MOST 1048576: true; the input reads as it did. -/
def volPlaysUptoRow : OpenClaim := { program := "ytfialjmemcobjaagreatdoor", sum := "944ba774178e5ad982f988ebc5c16731f2ecba02ae158c421a353ff1c5c087dd", func := "scoria/scorialaw14.VolPlays", spec := "volPlays", inPlace := ["internal/reflectlite.ValueOf", "(internal/reflectlite.Value).Type", "(internal/reflectlite.Value).IsNil", "internal/reflectlite.TypeOf", "(internal/reflectlite.Value).Elem", "(internal/reflectlite.Value).Set", "internal/abi.NoEscape", "slices.overlaps[scoria/api.Ext]", "slices.overlaps[scoria/tree.node]", "internal/bytealg.MakeNoZero"], unfollowed := true, recurses := true, named := ["errors.errorType"], apart := false, laid := [("errors.errorType", laid_errors_errorType)], narrowed := true }
def VolPlaysUptoSaid : Prop := volPlaysUptoRow.holds Tryz.pinned (OpenSpec.upto volPlaysSpec)

/-- 'scorialaw14.VolBad', WHERE WHAT IT READS IS OF BULK AT MOST 1048576: true; the input reads as it did. -/
def volBadUptoRow : OpenClaim := { program := "ytfialjmemcobjaagreatdoor", sum := "944ba774178e5ad982f988ebc5c16731f2ecba02ae158c421a353ff1c5c087dd", func := "scoria/scorialaw14.VolBad", spec := "volBad", inPlace := ["internal/reflectlite.ValueOf", "(internal/reflectlite.Value).Type", "(internal/reflectlite.Value).IsNil", "internal/reflectlite.TypeOf", "(internal/reflectlite.Value).Elem", "(internal/reflectlite.Value).Set", "internal/abi.NoEscape", "slices.overlaps[scoria/api.Ext]", "slices.overlaps[scoria/tree.node]", "internal/bytealg.MakeNoZero"], unfollowed := true, recurses := true, named := ["errors.errorType"], apart := false, laid := [("errors.errorType", laid_errors_errorType)], narrowed := true }
def VolBadUptoSaid : Prop := volBadUptoRow.holds Tryz.pinned (OpenSpec.upto volBadSpec)

/-- 'scorialaw14.VolCrash', WHERE WHAT IT READS IS OF BULK AT MOST 1048576: true; the input reads as it did. -/
def volCrashUptoRow : OpenClaim := { program := "ytfialjmemcobjaagreatdoor", sum := "944ba774178e5ad982f988ebc5c16731f2ecba02ae158c421a353ff1c5c087dd", func := "scoria/scorialaw14.VolCrash", spec := "volCrash", inPlace := ["internal/reflectlite.ValueOf", "(internal/reflectlite.Value).Type", "(internal/reflectlite.Value).IsNil", "internal/reflectlite.TypeOf", "(internal/reflectlite.Value).Elem", "(internal/reflectlite.Value).Set", "internal/abi.NoEscape", "slices.overlaps[scoria/api.Ext]", "slices.overlaps[scoria/tree.node]", "internal/bytealg.MakeNoZero"], unfollowed := true, recurses := true, named := ["errors.errorType"], apart := false, laid := [("errors.errorType", laid_errors_errorType)], narrowed := true }
def VolCrashUptoSaid : Prop := volCrashUptoRow.holds Tryz.pinned (OpenSpec.upto volCrashSpec)

/-- 'scorialaw14.VolBack', WHERE WHAT IT READS IS OF BULK AT MOST 1048576: true; the input reads as it did. -/
def volBackUptoRow : OpenClaim := { program := "ytfialjmemcobjaagreatdoor", sum := "944ba774178e5ad982f988ebc5c16731f2ecba02ae158c421a353ff1c5c087dd", func := "scoria/scorialaw14.VolBack", spec := "volBack", inPlace := ["internal/reflectlite.ValueOf", "(internal/reflectlite.Value).Type", "(internal/reflectlite.Value).IsNil", "internal/reflectlite.TypeOf", "(internal/reflectlite.Value).Elem", "(internal/reflectlite.Value).Set", "internal/abi.NoEscape", "slices.overlaps[scoria/api.Ext]", "slices.overlaps[scoria/tree.node]", "internal/bytealg.MakeNoZero"], unfollowed := true, recurses := true, named := ["errors.errorType"], apart := false, laid := [("errors.errorType", laid_errors_errorType)], narrowed := true }
def VolBackUptoSaid : Prop := volBackUptoRow.holds Tryz.pinned (OpenSpec.upto volBackSpec)

/-- 'scorialaw14.VolNeeds', WHERE WHAT IT READS IS OF BULK AT MOST 1048576: true; the input reads as it did. -/
def volNeedsUptoRow : OpenClaim := { program := "ytfialjmemcobjaagreatdoor", sum := "944ba774178e5ad982f988ebc5c16731f2ecba02ae158c421a353ff1c5c087dd", func := "scoria/scorialaw14.VolNeeds", spec := "volNeeds", inPlace := ["internal/reflectlite.ValueOf", "(internal/reflectlite.Value).Type", "(internal/reflectlite.Value).IsNil", "internal/reflectlite.TypeOf", "(internal/reflectlite.Value).Elem", "(internal/reflectlite.Value).Set", "internal/abi.NoEscape", "slices.overlaps[scoria/api.Ext]", "slices.overlaps[scoria/tree.node]", "internal/bytealg.MakeNoZero"], unfollowed := true, recurses := true, named := ["errors.errorType"], apart := false, laid := [("errors.errorType", laid_errors_errorType)], narrowed := true }
def VolNeedsUptoSaid : Prop := volNeedsUptoRow.holds Tryz.pinned (OpenSpec.upto volNeedsSpec)

end Rows
end Go.Proofs.YtfialjmemcobjaaGreatDoor
