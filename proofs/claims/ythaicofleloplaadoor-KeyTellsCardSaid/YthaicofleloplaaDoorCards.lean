/-
  DERIVED. GIVEN WITH THE SEED: THE CARDS: each row of YthaicofleloplaaDoorRows.lean that lists a variable, with what it lists TIED to the program's text (the seventh form; the later family's looks); each row that meets fmt, with fmt's text TOLD by the authors' own Lean function (tested against real Go, not proved from fmt's source: count such statements apart). THE CARD IS WHAT COUNTS. Prove the row's statement (the work); the ties are given (YthaicofleloplaaDoorTie.lean); close each card by the builder's one call (the guide's Derived/Test/ToyasCard.lean, 'card_holds'). Laid BY PROGRAM, IN A SANDBOX (cutbox-door.mjs). By AI agents, Wed Nov 11 2026. No macro, syntax, notation, axiom, sorry.
-/
import Derived.Test.YthaicofleloplaaDoorRows
import GoSem.ClaimSeven
namespace Go.Proofs.YthaicofleloplaaDoor
namespace Rows

/-- THE TIED CARD OF 'withylaw04.KeyTells'. -/
def keyTellsCard : Claim7 := { stood := { row := keyTellsRow, standIns := [], harness := (true, "3ae629b614fa9c3d7cd16f05c40ab9b83cd43017de7cac5af5b6f290b73debde"), looks := true }, kinds := [], alts := [], laidByText := true, laidKinds := [.data, .pinned], laidTests := true, laidLooks := .later }
def KeyTellsCardSaid : Prop := Claim7.holds Tryd.pinned (.plain (OpenSpec.ofChange keyTellsSpec)) keyTellsCard

/-- THE TIED CARD OF 'withylaw04.KeyOrder'. -/
def keyOrderCard : Claim7 := { stood := { row := keyOrderRow, standIns := [], harness := (true, "3ae629b614fa9c3d7cd16f05c40ab9b83cd43017de7cac5af5b6f290b73debde"), looks := true }, kinds := [], alts := [], laidByText := true, laidKinds := [.data, .pinned], laidTests := true, laidLooks := .later }
def KeyOrderCardSaid : Prop := Claim7.holds Tryd.pinned (.plain (OpenSpec.ofChange keyOrderSpec)) keyOrderCard

/-- THE TIED CARD OF 'withylaw04.KeyBack'. -/
def keyBackCard : Claim7 := { stood := { row := keyBackRow, standIns := [], harness := (true, "3ae629b614fa9c3d7cd16f05c40ab9b83cd43017de7cac5af5b6f290b73debde"), looks := true }, kinds := [], alts := [], laidByText := true, laidKinds := [.data, .pinned], laidTests := true, laidLooks := .later }
def KeyBackCardSaid : Prop := Claim7.holds Tryd.pinned (.plain (OpenSpec.ofChange keyBackSpec)) keyBackCard

/-- THE TIED CARD OF 'withylaw04.KeyOnce'. -/
def keyOnceCard : Claim7 := { stood := { row := keyOnceRow, standIns := [], harness := (true, "3ae629b614fa9c3d7cd16f05c40ab9b83cd43017de7cac5af5b6f290b73debde"), looks := true }, kinds := [], alts := [], laidByText := true, laidKinds := [.data, .pinned], laidTests := true, laidLooks := .later }
def KeyOnceCardSaid : Prop := Claim7.holds Tryd.pinned (.plain (OpenSpec.ofChange keyOnceSpec)) keyOnceCard

/-- THE TIED CARD OF 'withylaw04.KeyParts'. -/
def keyPartsCard : Claim7 := { stood := { row := keyPartsRow, standIns := [], harness := (true, "3ae629b614fa9c3d7cd16f05c40ab9b83cd43017de7cac5af5b6f290b73debde"), looks := true }, kinds := [], alts := [], laidByText := true, laidKinds := [.data, .pinned], laidTests := true, laidLooks := .later }
def KeyPartsCardSaid : Prop := Claim7.holds Tryd.pinned (.plain (OpenSpec.ofChange keyPartsSpec)) keyPartsCard

/-- THE TIED CARD OF 'withylaw04.KeyMore'. -/
def keyMoreCard : Claim7 := { stood := { row := keyMoreRow, standIns := [], harness := (true, "3ae629b614fa9c3d7cd16f05c40ab9b83cd43017de7cac5af5b6f290b73debde"), looks := true }, kinds := [], alts := [], laidByText := true, laidKinds := [.data, .pinned], laidTests := true, laidLooks := .later }
def KeyMoreCardSaid : Prop := Claim7.holds Tryd.pinned (.plain (OpenSpec.ofChange keyMoreSpec)) keyMoreCard

/-- THE SECOND FORM's CARD OF 'withylaw04.KeyTells'. -/
def keyTellsUptoCard : Claim7 := { stood := { row := keyTellsUptoRow, standIns := [], harness := (true, "3ae629b614fa9c3d7cd16f05c40ab9b83cd43017de7cac5af5b6f290b73debde"), looks := true }, kinds := [], alts := [], laidByText := true, laidKinds := [.data, .pinned], laidTests := true, laidLooks := .later }
def KeyTellsUptoCardSaid : Prop := Claim7.holds Tryd.pinned (.plain (OpenSpec.upto keyTellsSpec)) keyTellsUptoCard

/-- THE SECOND FORM's CARD OF 'withylaw04.KeyOrder'. -/
def keyOrderUptoCard : Claim7 := { stood := { row := keyOrderUptoRow, standIns := [], harness := (true, "3ae629b614fa9c3d7cd16f05c40ab9b83cd43017de7cac5af5b6f290b73debde"), looks := true }, kinds := [], alts := [], laidByText := true, laidKinds := [.data, .pinned], laidTests := true, laidLooks := .later }
def KeyOrderUptoCardSaid : Prop := Claim7.holds Tryd.pinned (.plain (OpenSpec.upto keyOrderSpec)) keyOrderUptoCard

/-- THE SECOND FORM's CARD OF 'withylaw04.KeyBack'. -/
def keyBackUptoCard : Claim7 := { stood := { row := keyBackUptoRow, standIns := [], harness := (true, "3ae629b614fa9c3d7cd16f05c40ab9b83cd43017de7cac5af5b6f290b73debde"), looks := true }, kinds := [], alts := [], laidByText := true, laidKinds := [.data, .pinned], laidTests := true, laidLooks := .later }
def KeyBackUptoCardSaid : Prop := Claim7.holds Tryd.pinned (.plain (OpenSpec.upto keyBackSpec)) keyBackUptoCard

/-- THE SECOND FORM's CARD OF 'withylaw04.KeyOnce'. -/
def keyOnceUptoCard : Claim7 := { stood := { row := keyOnceUptoRow, standIns := [], harness := (true, "3ae629b614fa9c3d7cd16f05c40ab9b83cd43017de7cac5af5b6f290b73debde"), looks := true }, kinds := [], alts := [], laidByText := true, laidKinds := [.data, .pinned], laidTests := true, laidLooks := .later }
def KeyOnceUptoCardSaid : Prop := Claim7.holds Tryd.pinned (.plain (OpenSpec.upto keyOnceSpec)) keyOnceUptoCard

/-- THE SECOND FORM's CARD OF 'withylaw04.KeyParts'. -/
def keyPartsUptoCard : Claim7 := { stood := { row := keyPartsUptoRow, standIns := [], harness := (true, "3ae629b614fa9c3d7cd16f05c40ab9b83cd43017de7cac5af5b6f290b73debde"), looks := true }, kinds := [], alts := [], laidByText := true, laidKinds := [.data, .pinned], laidTests := true, laidLooks := .later }
def KeyPartsUptoCardSaid : Prop := Claim7.holds Tryd.pinned (.plain (OpenSpec.upto keyPartsSpec)) keyPartsUptoCard

/-- THE SECOND FORM's CARD OF 'withylaw04.KeyMore'. -/
def keyMoreUptoCard : Claim7 := { stood := { row := keyMoreUptoRow, standIns := [], harness := (true, "3ae629b614fa9c3d7cd16f05c40ab9b83cd43017de7cac5af5b6f290b73debde"), looks := true }, kinds := [], alts := [], laidByText := true, laidKinds := [.data, .pinned], laidTests := true, laidLooks := .later }
def KeyMoreUptoCardSaid : Prop := Claim7.holds Tryd.pinned (.plain (OpenSpec.upto keyMoreSpec)) keyMoreUptoCard
end Rows
end Go.Proofs.YthaicofleloplaaDoor
