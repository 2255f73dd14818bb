/-
  DERIVED. GIVEN WITH THE SEED: THE CARDS: each row of YtfacgeappbgldaaGreatDoorRows.lean that lists a variable, with what it lists TIED to the program's text (the seventh form; the later family's looks); each row that meets fmt, with fmt's text TOLD by the authors' own Lean function (tested against real Go, not proved from fmt's source: count such statements apart). THE CARD IS WHAT COUNTS. Prove the row's statement (the work); the ties are given (YtfacgeappbgldaaGreatDoorTie.lean); close each card by the builder's one call (the guide's Derived/Test/ToyasCard.lean, 'card_holds'). Laid BY PROGRAM, IN A SANDBOX (cutbox-door.mjs). By AI agents, Wed Nov 11 2026. No macro, syntax, notation, axiom, sorry.
-/
import Derived.Test.YtfacgeappbgldaaGreatDoorRows
import GoSem.ClaimSeven
namespace Go.Proofs.YtfacgeappbgldaaGreatDoor
namespace Rows

/-- THE TIED CARD OF 'scorialaw11.StoreBad'. -/
def storeBadCard : Claim7 := { stood := { row := storeBadRow, standIns := [], harness := (true, "10b5adb47e909b942154465b0b2d373c227d0b9d318adaf5437499b04ef0b008"), looks := true }, kinds := [], alts := [], laidByText := true, laidKinds := [.handle], laidTests := true, laidLooks := .later }
def StoreBadCardSaid : Prop := Claim7.holds Tryz.pinned (.plain (OpenSpec.ofChange storeBadSpec)) storeBadCard

/-- THE TIED CARD OF 'scorialaw11.StoreKept'. -/
def storeKeptCard : Claim7 := { stood := { row := storeKeptRow, standIns := [], harness := (true, "10b5adb47e909b942154465b0b2d373c227d0b9d318adaf5437499b04ef0b008"), looks := true }, kinds := [], alts := [], laidByText := true, laidKinds := [.handle], laidTests := true, laidLooks := .later }
def StoreKeptCardSaid : Prop := Claim7.holds Tryz.pinned (.plain (OpenSpec.ofChange storeKeptSpec)) storeKeptCard

/-- THE TIED CARD OF 'scorialaw11.StoreScan'. -/
def storeScanCard : Claim7 := { stood := { row := storeScanRow, standIns := [], harness := (true, "10b5adb47e909b942154465b0b2d373c227d0b9d318adaf5437499b04ef0b008"), looks := true }, kinds := [], alts := [], laidByText := true, laidKinds := [.handle], laidTests := true, laidLooks := .later }
def StoreScanCardSaid : Prop := Claim7.holds Tryz.pinned (.plain (OpenSpec.ofChange storeScanSpec)) storeScanCard

/-- THE TIED CARD OF 'scorialaw11.StoreFull'. -/
def storeFullCard : Claim7 := { stood := { row := storeFullRow, standIns := [], harness := (true, "10b5adb47e909b942154465b0b2d373c227d0b9d318adaf5437499b04ef0b008"), looks := true }, kinds := [], alts := [], laidByText := true, laidKinds := [.handle], laidTests := true, laidLooks := .later }
def StoreFullCardSaid : Prop := Claim7.holds Tryz.pinned (.plain (OpenSpec.ofChange storeFullSpec)) storeFullCard

/-- THE TIED CARD OF 'scorialaw11.StoreNil'. -/
def storeNilCard : Claim7 := { stood := { row := storeNilRow, standIns := [], harness := (true, "10b5adb47e909b942154465b0b2d373c227d0b9d318adaf5437499b04ef0b008"), looks := true }, kinds := [], alts := [], laidByText := true, laidKinds := [.handle], laidTests := true, laidLooks := .later }
def StoreNilCardSaid : Prop := Claim7.holds Tryz.pinned (.plain (OpenSpec.ofChange storeNilSpec)) storeNilCard

/-- THE SECOND FORM's CARD OF 'scorialaw11.StoreBad'. -/
def storeBadUptoCard : Claim7 := { stood := { row := storeBadUptoRow, standIns := [], harness := (true, "10b5adb47e909b942154465b0b2d373c227d0b9d318adaf5437499b04ef0b008"), looks := true }, kinds := [], alts := [], laidByText := true, laidKinds := [.handle], laidTests := true, laidLooks := .later }
def StoreBadUptoCardSaid : Prop := Claim7.holds Tryz.pinned (.plain (OpenSpec.upto storeBadSpec)) storeBadUptoCard

/-- THE SECOND FORM's CARD OF 'scorialaw11.StoreKept'. -/
def storeKeptUptoCard : Claim7 := { stood := { row := storeKeptUptoRow, standIns := [], harness := (true, "10b5adb47e909b942154465b0b2d373c227d0b9d318adaf5437499b04ef0b008"), looks := true }, kinds := [], alts := [], laidByText := true, laidKinds := [.handle], laidTests := true, laidLooks := .later }
def StoreKeptUptoCardSaid : Prop := Claim7.holds Tryz.pinned (.plain (OpenSpec.upto storeKeptSpec)) storeKeptUptoCard

/-- THE SECOND FORM's CARD OF 'scorialaw11.StoreScan'. -/
def storeScanUptoCard : Claim7 := { stood := { row := storeScanUptoRow, standIns := [], harness := (true, "10b5adb47e909b942154465b0b2d373c227d0b9d318adaf5437499b04ef0b008"), looks := true }, kinds := [], alts := [], laidByText := true, laidKinds := [.handle], laidTests := true, laidLooks := .later }
def StoreScanUptoCardSaid : Prop := Claim7.holds Tryz.pinned (.plain (OpenSpec.upto storeScanSpec)) storeScanUptoCard

/-- THE SECOND FORM's CARD OF 'scorialaw11.StoreFull'. -/
def storeFullUptoCard : Claim7 := { stood := { row := storeFullUptoRow, standIns := [], harness := (true, "10b5adb47e909b942154465b0b2d373c227d0b9d318adaf5437499b04ef0b008"), looks := true }, kinds := [], alts := [], laidByText := true, laidKinds := [.handle], laidTests := true, laidLooks := .later }
def StoreFullUptoCardSaid : Prop := Claim7.holds Tryz.pinned (.plain (OpenSpec.upto storeFullSpec)) storeFullUptoCard

/-- THE SECOND FORM's CARD OF 'scorialaw11.StoreNil'. -/
def storeNilUptoCard : Claim7 := { stood := { row := storeNilUptoRow, standIns := [], harness := (true, "10b5adb47e909b942154465b0b2d373c227d0b9d318adaf5437499b04ef0b008"), looks := true }, kinds := [], alts := [], laidByText := true, laidKinds := [.handle], laidTests := true, laidLooks := .later }
def StoreNilUptoCardSaid : Prop := Claim7.holds Tryz.pinned (.plain (OpenSpec.upto storeNilSpec)) storeNilUptoCard
end Rows
end Go.Proofs.YtfacgeappbgldaaGreatDoor
