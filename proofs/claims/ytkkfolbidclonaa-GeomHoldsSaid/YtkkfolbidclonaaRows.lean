/-
  No cell of these rows narrows 'for every input' (looked for: loops, veiled, ifaces, maps, wideKeys, modest, calm, conditions, laid).
  DERIVED. THE GIVEN ROWS OF THIS SEAT. 6 by the template 'for every input the law returns true; each argument reads behind the call as it read before'; 0 by the template 'total and deterministic' (their statements: YtkkfolbidclonaaTotals.lean).
  GIVEN WITH THE SEED: the statements are not yours to turn. If you find one false, say at which input.
  Laid BY PROGRAM, IN A SANDBOX (cutbox-rows.mjs): the forced cells as the released guide's own fill.sh prints them over the translation a2b4305a9e65273f… (all of the seat's roots in one cut). By AI agents, Wed Nov 11 2026. No macro, syntax, notation, axiom, sorry.
-/
import Derived.Test.YtkkfolbidclonaaChecked
import GoSem.Claim
import GoSem.ClaimJoined
import GoSem.ClaimMapViews
import Derived.JoinedTies
import Derived.KernelRfl
namespace Go.Proofs.Ytkkfolbidclonaa
/- THE CELL 'sum', in the pinned program and in every row, IS THE sha256 OF THE DUMP (.gsa) THAT YtkkfolbidclonaaProg.lean LOADS. Nothing in Lean hashes anything: it is a label: what it is worth is what the hold of that sum in a sandbox is worth. -/
noncomputable def Try.pinned : Pinned := { name := "ytkkfolbidclonaa", sum := "a2b4305a9e65273f5e32c1953987562dbb3965efb961da03888b0adf7f084975", checked := Try.checked }
namespace Rows
def none {H : Type} : Left H := { results := [], args := [] }

/-- 'scorialaw06.GeomPlans': WHATEVER THE INPUT: true; the input reads as it did. -/
def geomPlansSpec : ChangeSpec := { name := "geomPlans", fn := fun _ => fun
  | [d] => { results := [.lit (.bool true)], args := [d] }
  | _ => none }
def geomPlansRow : OpenClaim := { program := "ytkkfolbidclonaa", sum := "a2b4305a9e65273f5e32c1953987562dbb3965efb961da03888b0adf7f084975", func := "scoria/scorialaw06.GeomPlans", spec := "geomPlans", apart := false }
def GeomPlansSaid : Prop := geomPlansRow.holds Try.pinned (OpenSpec.ofChange geomPlansSpec)

/-- ITS FALSE NEIGHBOUR: 'it returns false'. Refute it at one input. -/
def geomPlansWrong : ChangeSpec := { name := "geomPlans", fn := fun _ => fun
  | [d] => { results := [.lit (.bool false)], args := [d] }
  | _ => none }
def GeomPlansWrongFalsely : Prop := geomPlansRow.holds Try.pinned (OpenSpec.ofChange geomPlansWrong)

/-- 'scorialaw06.GeomHolds': WHATEVER THE INPUT: true; the input reads as it did. -/
def geomHoldsSpec : ChangeSpec := { name := "geomHolds", fn := fun _ => fun
  | [d] => { results := [.lit (.bool true)], args := [d] }
  | _ => none }
def geomHoldsRow : OpenClaim := { program := "ytkkfolbidclonaa", sum := "a2b4305a9e65273f5e32c1953987562dbb3965efb961da03888b0adf7f084975", func := "scoria/scorialaw06.GeomHolds", spec := "geomHolds", apart := false }
def GeomHoldsSaid : Prop := geomHoldsRow.holds Try.pinned (OpenSpec.ofChange geomHoldsSpec)

/-- ITS FALSE NEIGHBOUR: 'it returns false'. Refute it at one input. -/
def geomHoldsWrong : ChangeSpec := { name := "geomHolds", fn := fun _ => fun
  | [d] => { results := [.lit (.bool false)], args := [d] }
  | _ => none }
def GeomHoldsWrongFalsely : Prop := geomHoldsRow.holds Try.pinned (OpenSpec.ofChange geomHoldsWrong)

/-- 'scorialaw06.GeomAll': WHATEVER THE INPUT: true; the input reads as it did. -/
def geomAllSpec : ChangeSpec := { name := "geomAll", fn := fun _ => fun
  | [d] => { results := [.lit (.bool true)], args := [d] }
  | _ => none }
def geomAllRow : OpenClaim := { program := "ytkkfolbidclonaa", sum := "a2b4305a9e65273f5e32c1953987562dbb3965efb961da03888b0adf7f084975", func := "scoria/scorialaw06.GeomAll", spec := "geomAll", apart := false }
def GeomAllSaid : Prop := geomAllRow.holds Try.pinned (OpenSpec.ofChange geomAllSpec)

/-- ITS FALSE NEIGHBOUR: 'it returns false'. Refute it at one input. -/
def geomAllWrong : ChangeSpec := { name := "geomAll", fn := fun _ => fun
  | [d] => { results := [.lit (.bool false)], args := [d] }
  | _ => none }
def GeomAllWrongFalsely : Prop := geomAllRow.holds Try.pinned (OpenSpec.ofChange geomAllWrong)

/-- 'scorialaw06.GeomRises': WHATEVER THE INPUT: true; the input reads as it did. -/
def geomRisesSpec : ChangeSpec := { name := "geomRises", fn := fun _ => fun
  | [d1, d2] => { results := [.lit (.bool true)], args := [d1, d2] }
  | _ => none }
def geomRisesRow : OpenClaim := { program := "ytkkfolbidclonaa", sum := "a2b4305a9e65273f5e32c1953987562dbb3965efb961da03888b0adf7f084975", func := "scoria/scorialaw06.GeomRises", spec := "geomRises", apart := false }
def GeomRisesSaid : Prop := geomRisesRow.holds Try.pinned (OpenSpec.ofChange geomRisesSpec)

/-- ITS FALSE NEIGHBOUR: 'it returns false'. Refute it at one input. -/
def geomRisesWrong : ChangeSpec := { name := "geomRises", fn := fun _ => fun
  | [d1, d2] => { results := [.lit (.bool false)], args := [d1, d2] }
  | _ => none }
def GeomRisesWrongFalsely : Prop := geomRisesRow.holds Try.pinned (OpenSpec.ofChange geomRisesWrong)

/-- 'scorialaw06.GeomPages': WHATEVER THE INPUT: true; the input reads as it did. -/
def geomPagesSpec : ChangeSpec := { name := "geomPages", fn := fun _ => fun
  | [d1, d2, d3] => { results := [.lit (.bool true)], args := [d1, d2, d3] }
  | _ => none }
def geomPagesRow : OpenClaim := { program := "ytkkfolbidclonaa", sum := "a2b4305a9e65273f5e32c1953987562dbb3965efb961da03888b0adf7f084975", func := "scoria/scorialaw06.GeomPages", spec := "geomPages", apart := false }
def GeomPagesSaid : Prop := geomPagesRow.holds Try.pinned (OpenSpec.ofChange geomPagesSpec)

/-- ITS FALSE NEIGHBOUR: 'it returns false'. Refute it at one input. -/
def geomPagesWrong : ChangeSpec := { name := "geomPages", fn := fun _ => fun
  | [d1, d2, d3] => { results := [.lit (.bool false)], args := [d1, d2, d3] }
  | _ => none }
def GeomPagesWrongFalsely : Prop := geomPagesRow.holds Try.pinned (OpenSpec.ofChange geomPagesWrong)

/-- 'scorialaw06.GeomEach': WHATEVER THE INPUT: true; the input reads as it did. -/
def geomEachSpec : ChangeSpec := { name := "geomEach", fn := fun _ => fun
  | [d] => { results := [.lit (.bool true)], args := [d] }
  | _ => none }
def geomEachRow : OpenClaim := { program := "ytkkfolbidclonaa", sum := "a2b4305a9e65273f5e32c1953987562dbb3965efb961da03888b0adf7f084975", func := "scoria/scorialaw06.GeomEach", spec := "geomEach", apart := false }
def GeomEachSaid : Prop := geomEachRow.holds Try.pinned (OpenSpec.ofChange geomEachSpec)

/-- ITS FALSE NEIGHBOUR: 'it returns false'. Refute it at one input. -/
def geomEachWrong : ChangeSpec := { name := "geomEach", fn := fun _ => fun
  | [d] => { results := [.lit (.bool false)], args := [d] }
  | _ => none }
def GeomEachWrongFalsely : Prop := geomEachRow.holds Try.pinned (OpenSpec.ofChange geomEachWrong)

/- THE SECOND FORM. 'bulk': how many values and letters a reading holds, each counted each time it is reached (what is shared counts as often as it is met; a slice's spare places count too). A statement '..UptoSaid' is the law's where the arguments, and the package variables that the reading takes, are together of bulk at most 1048576: NARROWER than '..Said'. Prove '..Said' where nothing that the law and all that it calls make is longer than what came in: it says more and counts as full. Else prove '..UptoSaid'. A law counts once. -/
mutual
def uptoBulk {H : Type} : DataW H → Nat
  | .lit (.string bytes) => bytes.length + 1
  | .lit _ => 1
  | .nil => 1
  | .ptr d => uptoBulk d + 1
  | .slice elems spare => uptoBulkAll elems + uptoBulkAll spare + 1
  | .agg parts => uptoBulkAll parts + 1
  | .iface _ d => uptoBulk d + 1
  | .map entries => uptoBulkEntries entries + 1
  | .held _ => 1
def uptoBulkAll {H : Type} : List (DataW H) → Nat
  | [] => 0
  | d :: r => uptoBulk d + uptoBulkAll r
def uptoBulkEntries {H : Type} : List (Lit × DataW H) → Nat
  | [] => 0
  | x :: r => uptoBulkEntry x + uptoBulkEntries r
def uptoBulkEntry {H : Type} : Lit × DataW H → Nat
  | (.string bytes, d) => bytes.length + uptoBulk d + 1
  | (_, d) => uptoBulk d + 1
 end
def uptoSmall : (H : Type) → List (DataW H) → Bool := fun _ ds => decide (uptoBulkAll ds ≤ 1048576)
def OpenSpec.upto (s : _root_.Go.ChangeSpec) : _root_.Go.OpenSpec := { _root_.Go.OpenSpec.ofChange s with cond := some uptoSmall }

/-- 'scorialaw06.GeomPlans', WHERE WHAT IT READS IS OF BULK AT MOST 1048576: true; the input reads as it did. -/
def geomPlansUptoRow : OpenClaim := { program := "ytkkfolbidclonaa", sum := "a2b4305a9e65273f5e32c1953987562dbb3965efb961da03888b0adf7f084975", func := "scoria/scorialaw06.GeomPlans", spec := "geomPlans", apart := false, narrowed := true }
def GeomPlansUptoSaid : Prop := geomPlansUptoRow.holds Try.pinned (OpenSpec.upto geomPlansSpec)

/-- 'scorialaw06.GeomHolds', WHERE WHAT IT READS IS OF BULK AT MOST 1048576: true; the input reads as it did. -/
def geomHoldsUptoRow : OpenClaim := { program := "ytkkfolbidclonaa", sum := "a2b4305a9e65273f5e32c1953987562dbb3965efb961da03888b0adf7f084975", func := "scoria/scorialaw06.GeomHolds", spec := "geomHolds", apart := false, narrowed := true }
def GeomHoldsUptoSaid : Prop := geomHoldsUptoRow.holds Try.pinned (OpenSpec.upto geomHoldsSpec)

/-- 'scorialaw06.GeomAll', WHERE WHAT IT READS IS OF BULK AT MOST 1048576: true; the input reads as it did. -/
def geomAllUptoRow : OpenClaim := { program := "ytkkfolbidclonaa", sum := "a2b4305a9e65273f5e32c1953987562dbb3965efb961da03888b0adf7f084975", func := "scoria/scorialaw06.GeomAll", spec := "geomAll", apart := false, narrowed := true }
def GeomAllUptoSaid : Prop := geomAllUptoRow.holds Try.pinned (OpenSpec.upto geomAllSpec)

/-- 'scorialaw06.GeomRises', WHERE WHAT IT READS IS OF BULK AT MOST 1048576: true; the input reads as it did. -/
def geomRisesUptoRow : OpenClaim := { program := "ytkkfolbidclonaa", sum := "a2b4305a9e65273f5e32c1953987562dbb3965efb961da03888b0adf7f084975", func := "scoria/scorialaw06.GeomRises", spec := "geomRises", apart := false, narrowed := true }
def GeomRisesUptoSaid : Prop := geomRisesUptoRow.holds Try.pinned (OpenSpec.upto geomRisesSpec)

/-- 'scorialaw06.GeomPages', WHERE WHAT IT READS IS OF BULK AT MOST 1048576: true; the input reads as it did. -/
def geomPagesUptoRow : OpenClaim := { program := "ytkkfolbidclonaa", sum := "a2b4305a9e65273f5e32c1953987562dbb3965efb961da03888b0adf7f084975", func := "scoria/scorialaw06.GeomPages", spec := "geomPages", apart := false, narrowed := true }
def GeomPagesUptoSaid : Prop := geomPagesUptoRow.holds Try.pinned (OpenSpec.upto geomPagesSpec)

/-- 'scorialaw06.GeomEach', WHERE WHAT IT READS IS OF BULK AT MOST 1048576: true; the input reads as it did. -/
def geomEachUptoRow : OpenClaim := { program := "ytkkfolbidclonaa", sum := "a2b4305a9e65273f5e32c1953987562dbb3965efb961da03888b0adf7f084975", func := "scoria/scorialaw06.GeomEach", spec := "geomEach", apart := false, narrowed := true }
def GeomEachUptoSaid : Prop := geomEachUptoRow.holds Try.pinned (OpenSpec.upto geomEachSpec)

end Rows
end Go.Proofs.Ytkkfolbidclonaa
