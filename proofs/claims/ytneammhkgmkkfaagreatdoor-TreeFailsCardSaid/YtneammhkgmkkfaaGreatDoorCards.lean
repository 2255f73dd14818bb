/-
  DERIVED. GIVEN WITH THE SEED: THE CARDS: each row of YtneammhkgmkkfaaGreatDoorRows.lean that lists a variable, with what it lists TIED to the program's text (the seventh form; the later family's looks); each row that meets fmt, with fmt's text TOLD by the authors' own Lean function (tested against real Go, not proved from fmt's source: count such statements apart). THE CARD IS WHAT COUNTS. Prove the row's statement (the work); the ties are given (YtneammhkgmkkfaaGreatDoorTie.lean); close each card by the builder's one call (the guide's Derived/Test/ToyasCard.lean, 'card_holds'). Laid BY PROGRAM, IN A SANDBOX (cutbox-door.mjs). By AI agents, Wed Nov 11 2026. No macro, syntax, notation, axiom, sorry.
-/
import Derived.Test.YtneammhkgmkkfaaGreatDoorRows
import GoSem.ClaimSeven
namespace Go.Proofs.YtneammhkgmkkfaaGreatDoor
namespace Rows

/-- THE TIED CARD OF 'scorialaw10.TreeReads'. -/
def treeReadsCard : Claim7 := { stood := { row := treeReadsRow, standIns := [], harness := (true, "5589e2d3840123bdaf027815cea7a1677c0617f303ff43e270cd034792844cb1"), looks := true }, kinds := [], alts := [], laidByText := true, laidKinds := [.handle], laidTests := true, laidLooks := .later }
def TreeReadsCardSaid : Prop := Claim7.holds Tryz.pinned (.plain (OpenSpec.ofChange treeReadsSpec)) treeReadsCard

/-- THE TIED CARD OF 'scorialaw10.TreeFails'. -/
def treeFailsCard : Claim7 := { stood := { row := treeFailsRow, standIns := [], harness := (true, "5589e2d3840123bdaf027815cea7a1677c0617f303ff43e270cd034792844cb1"), looks := true }, kinds := [], alts := [], laidByText := true, laidKinds := [.handle], laidTests := true, laidLooks := .later }
def TreeFailsCardSaid : Prop := Claim7.holds Tryz.pinned (.plain (OpenSpec.ofChange treeFailsSpec)) treeFailsCard

/-- THE SECOND FORM's CARD OF 'scorialaw10.TreeReads'. -/
def treeReadsUptoCard : Claim7 := { stood := { row := treeReadsUptoRow, standIns := [], harness := (true, "5589e2d3840123bdaf027815cea7a1677c0617f303ff43e270cd034792844cb1"), looks := true }, kinds := [], alts := [], laidByText := true, laidKinds := [.handle], laidTests := true, laidLooks := .later }
def TreeReadsUptoCardSaid : Prop := Claim7.holds Tryz.pinned (.plain (OpenSpec.upto treeReadsSpec)) treeReadsUptoCard

/-- THE SECOND FORM's CARD OF 'scorialaw10.TreeFails'. -/
def treeFailsUptoCard : Claim7 := { stood := { row := treeFailsUptoRow, standIns := [], harness := (true, "5589e2d3840123bdaf027815cea7a1677c0617f303ff43e270cd034792844cb1"), looks := true }, kinds := [], alts := [], laidByText := true, laidKinds := [.handle], laidTests := true, laidLooks := .later }
def TreeFailsUptoCardSaid : Prop := Claim7.holds Tryz.pinned (.plain (OpenSpec.upto treeFailsSpec)) treeFailsUptoCard
end Rows
end Go.Proofs.YtneammhkgmkkfaaGreatDoor
