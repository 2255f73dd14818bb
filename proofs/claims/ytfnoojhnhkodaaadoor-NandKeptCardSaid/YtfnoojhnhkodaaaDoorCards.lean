/-
  DERIVED. GIVEN WITH THE SEED: THE CARDS: each row of YtfnoojhnhkodaaaDoorRows.lean that lists a variable, with what it lists TIED to the program's text (the seventh form; the later family's looks); each row that meets fmt, with fmt's text TOLD by the authors' own Lean function (tested against real Go, not proved from fmt's source: count such statements apart). THE CARD IS WHAT COUNTS. Prove the row's statement (the work); the ties are given (YtfnoojhnhkodaaaDoorTie.lean); close each card by the builder's one call (the guide's Derived/Test/ToyasCard.lean, 'card_holds'). Laid BY PROGRAM, IN A SANDBOX (cutbox-door.mjs). By AI agents, Wed Nov 11 2026. No macro, syntax, notation, axiom, sorry.
-/
import Derived.Test.YtfnoojhnhkodaaaDoorRows
import GoSem.ClaimSeven
namespace Go.Proofs.YtfnoojhnhkodaaaDoor
namespace Rows

/-- THE TIED CARD OF 'scorialaw04.NandOrder'. -/
def nandOrderCard : Claim7 := { stood := { row := nandOrderRow, standIns := [], harness := (true, "d6fbbe43b1f5a82521e65555ce880f50890c9bbf2ec606dc708a79b904b32392"), looks := true }, kinds := [], alts := [], laidByText := true, laidKinds := [.handle], laidTests := true, laidLooks := .later }
def NandOrderCardSaid : Prop := Claim7.holds Tryd.pinned (.plain (OpenSpec.ofChange nandOrderSpec)) nandOrderCard

/-- THE TIED CARD OF 'scorialaw04.NandTorn'. -/
def nandTornCard : Claim7 := { stood := { row := nandTornRow, standIns := [], harness := (true, "d6fbbe43b1f5a82521e65555ce880f50890c9bbf2ec606dc708a79b904b32392"), looks := true }, kinds := [], alts := [], laidByText := true, laidKinds := [.handle], laidTests := true, laidLooks := .later }
def NandTornCardSaid : Prop := Claim7.holds Tryd.pinned (.plain (OpenSpec.ofChange nandTornSpec)) nandTornCard

/-- THE TIED CARD OF 'scorialaw04.NandKept'. -/
def nandKeptCard : Claim7 := { stood := { row := nandKeptRow, standIns := [], harness := (true, "d6fbbe43b1f5a82521e65555ce880f50890c9bbf2ec606dc708a79b904b32392"), looks := true }, kinds := [], alts := [], laidByText := true, laidKinds := [.handle], laidTests := true, laidLooks := .later }
def NandKeptCardSaid : Prop := Claim7.holds Tryd.pinned (.plain (OpenSpec.ofChange nandKeptSpec)) nandKeptCard

/-- THE TIED CARD OF 'scorialaw04.NandBad'. -/
def nandBadCard : Claim7 := { stood := { row := nandBadRow, standIns := [], harness := (true, "d6fbbe43b1f5a82521e65555ce880f50890c9bbf2ec606dc708a79b904b32392"), looks := true }, kinds := [], alts := [], laidByText := true, laidKinds := [.handle], laidTests := true, laidLooks := .later }
def NandBadCardSaid : Prop := Claim7.holds Tryd.pinned (.plain (OpenSpec.ofChange nandBadSpec)) nandBadCard

/-- THE TIED CARD OF 'scorialaw04.NandNil'. -/
def nandNilCard : Claim7 := { stood := { row := nandNilRow, standIns := [], harness := (true, "d6fbbe43b1f5a82521e65555ce880f50890c9bbf2ec606dc708a79b904b32392"), looks := true }, kinds := [], alts := [], laidByText := true, laidKinds := [.handle], laidTests := true, laidLooks := .later }
def NandNilCardSaid : Prop := Claim7.holds Tryd.pinned (.plain (OpenSpec.ofChange nandNilSpec)) nandNilCard

/-- THE SECOND FORM's CARD OF 'scorialaw04.NandOrder'. -/
def nandOrderUptoCard : Claim7 := { stood := { row := nandOrderUptoRow, standIns := [], harness := (true, "d6fbbe43b1f5a82521e65555ce880f50890c9bbf2ec606dc708a79b904b32392"), looks := true }, kinds := [], alts := [], laidByText := true, laidKinds := [.handle], laidTests := true, laidLooks := .later }
def NandOrderUptoCardSaid : Prop := Claim7.holds Tryd.pinned (.plain (OpenSpec.upto nandOrderSpec)) nandOrderUptoCard

/-- THE SECOND FORM's CARD OF 'scorialaw04.NandTorn'. -/
def nandTornUptoCard : Claim7 := { stood := { row := nandTornUptoRow, standIns := [], harness := (true, "d6fbbe43b1f5a82521e65555ce880f50890c9bbf2ec606dc708a79b904b32392"), looks := true }, kinds := [], alts := [], laidByText := true, laidKinds := [.handle], laidTests := true, laidLooks := .later }
def NandTornUptoCardSaid : Prop := Claim7.holds Tryd.pinned (.plain (OpenSpec.upto nandTornSpec)) nandTornUptoCard

/-- THE SECOND FORM's CARD OF 'scorialaw04.NandKept'. -/
def nandKeptUptoCard : Claim7 := { stood := { row := nandKeptUptoRow, standIns := [], harness := (true, "d6fbbe43b1f5a82521e65555ce880f50890c9bbf2ec606dc708a79b904b32392"), looks := true }, kinds := [], alts := [], laidByText := true, laidKinds := [.handle], laidTests := true, laidLooks := .later }
def NandKeptUptoCardSaid : Prop := Claim7.holds Tryd.pinned (.plain (OpenSpec.upto nandKeptSpec)) nandKeptUptoCard

/-- THE SECOND FORM's CARD OF 'scorialaw04.NandBad'. -/
def nandBadUptoCard : Claim7 := { stood := { row := nandBadUptoRow, standIns := [], harness := (true, "d6fbbe43b1f5a82521e65555ce880f50890c9bbf2ec606dc708a79b904b32392"), looks := true }, kinds := [], alts := [], laidByText := true, laidKinds := [.handle], laidTests := true, laidLooks := .later }
def NandBadUptoCardSaid : Prop := Claim7.holds Tryd.pinned (.plain (OpenSpec.upto nandBadSpec)) nandBadUptoCard

/-- THE SECOND FORM's CARD OF 'scorialaw04.NandNil'. -/
def nandNilUptoCard : Claim7 := { stood := { row := nandNilUptoRow, standIns := [], harness := (true, "d6fbbe43b1f5a82521e65555ce880f50890c9bbf2ec606dc708a79b904b32392"), looks := true }, kinds := [], alts := [], laidByText := true, laidKinds := [.handle], laidTests := true, laidLooks := .later }
def NandNilUptoCardSaid : Prop := Claim7.holds Tryd.pinned (.plain (OpenSpec.upto nandNilSpec)) nandNilUptoCard
end Rows
end Go.Proofs.YtfnoojhnhkodaaaDoor
