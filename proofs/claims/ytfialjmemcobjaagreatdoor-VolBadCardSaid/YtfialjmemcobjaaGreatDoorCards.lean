/-
  DERIVED. GIVEN WITH THE SEED: THE CARDS: each row of YtfialjmemcobjaaGreatDoorRows.lean that lists a variable, with what it lists TIED to the program's text (the seventh form; the later family's looks); each row that meets fmt, with fmt's text TOLD by the authors' own Lean function (tested against real Go, not proved from fmt's source: count such statements apart). THE CARD IS WHAT COUNTS. Prove the row's statement (the work); the ties are given (YtfialjmemcobjaaGreatDoorTie.lean); close each card by the builder's one call (the guide's Derived/Test/ToyasCard.lean, 'card_holds'). Laid BY PROGRAM, IN A SANDBOX (cutbox-door.mjs). By AI agents, Wed Nov 11 2026. No macro, syntax, notation, axiom, sorry.
-/
import Derived.Test.YtfialjmemcobjaaGreatDoorRows
import GoSem.ClaimSeven
namespace Go.Proofs.YtfialjmemcobjaaGreatDoor
namespace Rows

/-- THE TIED CARD OF 'scorialaw14.VolOpens'. -/
def volOpensCard : Claim7 := { stood := { row := volOpensRow, standIns := [], harness := (true, "4d4d5d5bb5b6c4ebda111cab19cafef46ee47064a84090d48dce7065c7ca08e4"), looks := true }, kinds := [], alts := [], laidByText := true, laidKinds := [.handle], laidTests := true, laidLooks := .later }
def VolOpensCardSaid : Prop := Claim7.holds Tryz.pinned (.plain (OpenSpec.ofChange volOpensSpec)) volOpensCard

/-- THE TIED CARD OF 'scorialaw14.VolNil'. -/
def volNilCard : Claim7 := { stood := { row := volNilRow, standIns := [], harness := (true, "4d4d5d5bb5b6c4ebda111cab19cafef46ee47064a84090d48dce7065c7ca08e4"), looks := true }, kinds := [], alts := [], laidByText := true, laidKinds := [.handle], laidTests := true, laidLooks := .later }
def VolNilCardSaid : Prop := Claim7.holds Tryz.pinned (.plain (OpenSpec.ofChange volNilSpec)) volNilCard

/-- THE TIED CARD OF 'scorialaw14.VolPlays'. -/
def volPlaysCard : Claim7 := { stood := { row := volPlaysRow, standIns := [], harness := (true, "4d4d5d5bb5b6c4ebda111cab19cafef46ee47064a84090d48dce7065c7ca08e4"), looks := true }, kinds := [], alts := [], laidByText := true, laidKinds := [.handle], laidTests := true, laidLooks := .later }
def VolPlaysCardSaid : Prop := Claim7.holds Tryz.pinned (.plain (OpenSpec.ofChange volPlaysSpec)) volPlaysCard

/-- THE TIED CARD OF 'scorialaw14.VolBad'. -/
def volBadCard : Claim7 := { stood := { row := volBadRow, standIns := [], harness := (true, "4d4d5d5bb5b6c4ebda111cab19cafef46ee47064a84090d48dce7065c7ca08e4"), looks := true }, kinds := [], alts := [], laidByText := true, laidKinds := [.handle], laidTests := true, laidLooks := .later }
def VolBadCardSaid : Prop := Claim7.holds Tryz.pinned (.plain (OpenSpec.ofChange volBadSpec)) volBadCard

/-- THE TIED CARD OF 'scorialaw14.VolCrash'. -/
def volCrashCard : Claim7 := { stood := { row := volCrashRow, standIns := [], harness := (true, "4d4d5d5bb5b6c4ebda111cab19cafef46ee47064a84090d48dce7065c7ca08e4"), looks := true }, kinds := [], alts := [], laidByText := true, laidKinds := [.handle], laidTests := true, laidLooks := .later }
def VolCrashCardSaid : Prop := Claim7.holds Tryz.pinned (.plain (OpenSpec.ofChange volCrashSpec)) volCrashCard

/-- THE TIED CARD OF 'scorialaw14.VolBack'. -/
def volBackCard : Claim7 := { stood := { row := volBackRow, standIns := [], harness := (true, "4d4d5d5bb5b6c4ebda111cab19cafef46ee47064a84090d48dce7065c7ca08e4"), looks := true }, kinds := [], alts := [], laidByText := true, laidKinds := [.handle], laidTests := true, laidLooks := .later }
def VolBackCardSaid : Prop := Claim7.holds Tryz.pinned (.plain (OpenSpec.ofChange volBackSpec)) volBackCard

/-- THE TIED CARD OF 'scorialaw14.VolNeeds'. -/
def volNeedsCard : Claim7 := { stood := { row := volNeedsRow, standIns := [], harness := (true, "4d4d5d5bb5b6c4ebda111cab19cafef46ee47064a84090d48dce7065c7ca08e4"), looks := true }, kinds := [], alts := [], laidByText := true, laidKinds := [.handle], laidTests := true, laidLooks := .later }
def VolNeedsCardSaid : Prop := Claim7.holds Tryz.pinned (.plain (OpenSpec.ofChange volNeedsSpec)) volNeedsCard

/-- THE SECOND FORM's CARD OF 'scorialaw14.VolOpens'. -/
def volOpensUptoCard : Claim7 := { stood := { row := volOpensUptoRow, standIns := [], harness := (true, "4d4d5d5bb5b6c4ebda111cab19cafef46ee47064a84090d48dce7065c7ca08e4"), looks := true }, kinds := [], alts := [], laidByText := true, laidKinds := [.handle], laidTests := true, laidLooks := .later }
def VolOpensUptoCardSaid : Prop := Claim7.holds Tryz.pinned (.plain (OpenSpec.upto volOpensSpec)) volOpensUptoCard

/-- THE SECOND FORM's CARD OF 'scorialaw14.VolNil'. -/
def volNilUptoCard : Claim7 := { stood := { row := volNilUptoRow, standIns := [], harness := (true, "4d4d5d5bb5b6c4ebda111cab19cafef46ee47064a84090d48dce7065c7ca08e4"), looks := true }, kinds := [], alts := [], laidByText := true, laidKinds := [.handle], laidTests := true, laidLooks := .later }
def VolNilUptoCardSaid : Prop := Claim7.holds Tryz.pinned (.plain (OpenSpec.upto volNilSpec)) volNilUptoCard

/-- THE SECOND FORM's CARD OF 'scorialaw14.VolPlays'. -/
def volPlaysUptoCard : Claim7 := { stood := { row := volPlaysUptoRow, standIns := [], harness := (true, "4d4d5d5bb5b6c4ebda111cab19cafef46ee47064a84090d48dce7065c7ca08e4"), looks := true }, kinds := [], alts := [], laidByText := true, laidKinds := [.handle], laidTests := true, laidLooks := .later }
def VolPlaysUptoCardSaid : Prop := Claim7.holds Tryz.pinned (.plain (OpenSpec.upto volPlaysSpec)) volPlaysUptoCard

/-- THE SECOND FORM's CARD OF 'scorialaw14.VolBad'. -/
def volBadUptoCard : Claim7 := { stood := { row := volBadUptoRow, standIns := [], harness := (true, "4d4d5d5bb5b6c4ebda111cab19cafef46ee47064a84090d48dce7065c7ca08e4"), looks := true }, kinds := [], alts := [], laidByText := true, laidKinds := [.handle], laidTests := true, laidLooks := .later }
def VolBadUptoCardSaid : Prop := Claim7.holds Tryz.pinned (.plain (OpenSpec.upto volBadSpec)) volBadUptoCard

/-- THE SECOND FORM's CARD OF 'scorialaw14.VolCrash'. -/
def volCrashUptoCard : Claim7 := { stood := { row := volCrashUptoRow, standIns := [], harness := (true, "4d4d5d5bb5b6c4ebda111cab19cafef46ee47064a84090d48dce7065c7ca08e4"), looks := true }, kinds := [], alts := [], laidByText := true, laidKinds := [.handle], laidTests := true, laidLooks := .later }
def VolCrashUptoCardSaid : Prop := Claim7.holds Tryz.pinned (.plain (OpenSpec.upto volCrashSpec)) volCrashUptoCard

/-- THE SECOND FORM's CARD OF 'scorialaw14.VolBack'. -/
def volBackUptoCard : Claim7 := { stood := { row := volBackUptoRow, standIns := [], harness := (true, "4d4d5d5bb5b6c4ebda111cab19cafef46ee47064a84090d48dce7065c7ca08e4"), looks := true }, kinds := [], alts := [], laidByText := true, laidKinds := [.handle], laidTests := true, laidLooks := .later }
def VolBackUptoCardSaid : Prop := Claim7.holds Tryz.pinned (.plain (OpenSpec.upto volBackSpec)) volBackUptoCard

/-- THE SECOND FORM's CARD OF 'scorialaw14.VolNeeds'. -/
def volNeedsUptoCard : Claim7 := { stood := { row := volNeedsUptoRow, standIns := [], harness := (true, "4d4d5d5bb5b6c4ebda111cab19cafef46ee47064a84090d48dce7065c7ca08e4"), looks := true }, kinds := [], alts := [], laidByText := true, laidKinds := [.handle], laidTests := true, laidLooks := .later }
def VolNeedsUptoCardSaid : Prop := Claim7.holds Tryz.pinned (.plain (OpenSpec.upto volNeedsSpec)) volNeedsUptoCard
end Rows
end Go.Proofs.YtfialjmemcobjaaGreatDoor
