/-
  DERIVED. GIVEN WITH THE SEED: THE CARDS: each row of YtkkfolbidclonaaDoorRows.lean that lists a variable, with what it lists TIED to the program's text (the seventh form; the later family's looks); each row that meets fmt, with fmt's text TOLD by the authors' own Lean function (tested against real Go, not proved from fmt's source: count such statements apart). THE CARD IS WHAT COUNTS. Prove the row's statement (the work); the ties are given (YtkkfolbidclonaaDoorTie.lean); close each card by the builder's one call (the guide's Derived/Test/ToyasCard.lean, 'card_holds'). Laid BY PROGRAM, IN A SANDBOX (cutbox-door.mjs). By AI agents, Wed Nov 11 2026. No macro, syntax, notation, axiom, sorry.
-/
import Derived.Test.YtkkfolbidclonaaDoorRows
import GoSem.ClaimSeven
namespace Go.Proofs.YtkkfolbidclonaaDoor
namespace Rows

/-- THE TIED CARD OF 'scorialaw03.FaultCodes'. -/
def faultCodesCard : Claim7 := { stood := { row := faultCodesRow, standIns := [], harness := (true, "55e7c1c428a73c1ab7afa3d1ad3b380bbb7ee7fe48b14d7f2efc4252a3d1dbff"), looks := true }, kinds := [], alts := [], laidByText := true, laidKinds := [.handle], laidTests := true, laidLooks := .later }
def FaultCodesCardSaid : Prop := Claim7.holds Tryd.pinned (.plain (OpenSpec.ofChange faultCodesSpec)) faultCodesCard

/-- THE TIED CARD OF 'scorialaw03.FaultTrails'. -/
def faultTrailsCard : Claim7 := { stood := { row := faultTrailsRow, standIns := [], harness := (true, "55e7c1c428a73c1ab7afa3d1ad3b380bbb7ee7fe48b14d7f2efc4252a3d1dbff"), looks := true }, kinds := [], alts := [], laidByText := true, laidKinds := [.handle], laidTests := true, laidLooks := .later }
def FaultTrailsCardSaid : Prop := Claim7.holds Tryd.pinned (.plain (OpenSpec.ofChange faultTrailsSpec)) faultTrailsCard

/-- THE TIED CARD OF 'scorialaw03.FaultDeep'. -/
def faultDeepCard : Claim7 := { stood := { row := faultDeepRow, standIns := [], harness := (true, "55e7c1c428a73c1ab7afa3d1ad3b380bbb7ee7fe48b14d7f2efc4252a3d1dbff"), looks := true }, kinds := [], alts := [], laidByText := true, laidKinds := [.handle], laidTests := true, laidLooks := .later }
def FaultDeepCardSaid : Prop := Claim7.holds Tryd.pinned (.plain (OpenSpec.ofChange faultDeepSpec)) faultDeepCard

/-- THE TIED CARD OF 'scorialaw03.FaultJoins'. -/
def faultJoinsCard : Claim7 := { stood := { row := faultJoinsRow, standIns := [], harness := (true, "55e7c1c428a73c1ab7afa3d1ad3b380bbb7ee7fe48b14d7f2efc4252a3d1dbff"), looks := true }, kinds := [], alts := [], laidByText := true, laidKinds := [.handle], laidTests := true, laidLooks := .later }
def FaultJoinsCardSaid : Prop := Claim7.holds Tryd.pinned (.plain (OpenSpec.ofChange faultJoinsSpec)) faultJoinsCard

/-- THE TIED CARD OF 'scorialaw03.FaultHas'. -/
def faultHasCard : Claim7 := { stood := { row := faultHasRow, standIns := [], harness := (true, "55e7c1c428a73c1ab7afa3d1ad3b380bbb7ee7fe48b14d7f2efc4252a3d1dbff"), looks := true }, kinds := [], alts := [], laidByText := true, laidKinds := [.handle], laidTests := true, laidLooks := .later }
def FaultHasCardSaid : Prop := Claim7.holds Tryd.pinned (.plain (OpenSpec.ofChange faultHasSpec)) faultHasCard

/-- THE TIED CARD OF 'scorialaw03.FaultWraps'. -/
def faultWrapsCard : Claim7 := { stood := { row := faultWrapsRow, standIns := [], harness := (true, "55e7c1c428a73c1ab7afa3d1ad3b380bbb7ee7fe48b14d7f2efc4252a3d1dbff"), looks := true }, kinds := [], alts := [], laidByText := true, laidKinds := [.handle], laidTests := true, laidLooks := .later }
def FaultWrapsCardSaid : Prop := Claim7.holds Tryd.pinned (.plain (OpenSpec.ofChange faultWrapsSpec)) faultWrapsCard

/-- THE SECOND FORM's CARD OF 'scorialaw03.FaultCodes'. -/
def faultCodesUptoCard : Claim7 := { stood := { row := faultCodesUptoRow, standIns := [], harness := (true, "55e7c1c428a73c1ab7afa3d1ad3b380bbb7ee7fe48b14d7f2efc4252a3d1dbff"), looks := true }, kinds := [], alts := [], laidByText := true, laidKinds := [.handle], laidTests := true, laidLooks := .later }
def FaultCodesUptoCardSaid : Prop := Claim7.holds Tryd.pinned (.plain (OpenSpec.upto faultCodesSpec)) faultCodesUptoCard

/-- THE SECOND FORM's CARD OF 'scorialaw03.FaultTrails'. -/
def faultTrailsUptoCard : Claim7 := { stood := { row := faultTrailsUptoRow, standIns := [], harness := (true, "55e7c1c428a73c1ab7afa3d1ad3b380bbb7ee7fe48b14d7f2efc4252a3d1dbff"), looks := true }, kinds := [], alts := [], laidByText := true, laidKinds := [.handle], laidTests := true, laidLooks := .later }
def FaultTrailsUptoCardSaid : Prop := Claim7.holds Tryd.pinned (.plain (OpenSpec.upto faultTrailsSpec)) faultTrailsUptoCard

/-- THE SECOND FORM's CARD OF 'scorialaw03.FaultDeep'. -/
def faultDeepUptoCard : Claim7 := { stood := { row := faultDeepUptoRow, standIns := [], harness := (true, "55e7c1c428a73c1ab7afa3d1ad3b380bbb7ee7fe48b14d7f2efc4252a3d1dbff"), looks := true }, kinds := [], alts := [], laidByText := true, laidKinds := [.handle], laidTests := true, laidLooks := .later }
def FaultDeepUptoCardSaid : Prop := Claim7.holds Tryd.pinned (.plain (OpenSpec.upto faultDeepSpec)) faultDeepUptoCard

/-- THE SECOND FORM's CARD OF 'scorialaw03.FaultJoins'. -/
def faultJoinsUptoCard : Claim7 := { stood := { row := faultJoinsUptoRow, standIns := [], harness := (true, "55e7c1c428a73c1ab7afa3d1ad3b380bbb7ee7fe48b14d7f2efc4252a3d1dbff"), looks := true }, kinds := [], alts := [], laidByText := true, laidKinds := [.handle], laidTests := true, laidLooks := .later }
def FaultJoinsUptoCardSaid : Prop := Claim7.holds Tryd.pinned (.plain (OpenSpec.upto faultJoinsSpec)) faultJoinsUptoCard

/-- THE SECOND FORM's CARD OF 'scorialaw03.FaultHas'. -/
def faultHasUptoCard : Claim7 := { stood := { row := faultHasUptoRow, standIns := [], harness := (true, "55e7c1c428a73c1ab7afa3d1ad3b380bbb7ee7fe48b14d7f2efc4252a3d1dbff"), looks := true }, kinds := [], alts := [], laidByText := true, laidKinds := [.handle], laidTests := true, laidLooks := .later }
def FaultHasUptoCardSaid : Prop := Claim7.holds Tryd.pinned (.plain (OpenSpec.upto faultHasSpec)) faultHasUptoCard

/-- THE SECOND FORM's CARD OF 'scorialaw03.FaultWraps'. -/
def faultWrapsUptoCard : Claim7 := { stood := { row := faultWrapsUptoRow, standIns := [], harness := (true, "55e7c1c428a73c1ab7afa3d1ad3b380bbb7ee7fe48b14d7f2efc4252a3d1dbff"), looks := true }, kinds := [], alts := [], laidByText := true, laidKinds := [.handle], laidTests := true, laidLooks := .later }
def FaultWrapsUptoCardSaid : Prop := Claim7.holds Tryd.pinned (.plain (OpenSpec.upto faultWrapsSpec)) faultWrapsUptoCard
end Rows
end Go.Proofs.YtkkfolbidclonaaDoor
