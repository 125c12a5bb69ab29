/-
  DERIVED. GIVEN WITH THE SEED: THE CARDS: each row of YtggfnlnonigkiaaDoorRows.lean that lists a variable, with what it lists TIED to the program's text (the seventh form; the later family's looks); each row that meets fmt, with fmt's text TOLD by the authors' own Lean function (tested against real Go, not proved from fmt's source: count such statements apart). THE CARD IS WHAT COUNTS. Prove the row's statement (the work); the ties are given (YtggfnlnonigkiaaDoorTie.lean); close each card by the builder's one call (the guide's Derived/Test/ToyasCard.lean, 'card_holds'). Laid BY PROGRAM, IN A SANDBOX (cutbox-door.mjs). By AI agents, Wed Nov 11 2026. No macro, syntax, notation, axiom, sorry.
-/
import Derived.Test.YtggfnlnonigkiaaDoorRows
import GoSem.ClaimSeven
namespace Go.Proofs.YtggfnlnonigkiaaDoor
namespace Rows

/-- THE TIED CARD OF 'withylaw12.ChainBack'. -/
def chainBackCard : Claim7 := { stood := { row := chainBackRow, standIns := [], harness := (true, "ff44d5c825508d7b5ab660bc3d98b45fccda4e95d686f6d641d3b435f6de9b8d"), looks := true }, kinds := [], alts := [], laidByText := true, laidKinds := [.data, .pinned], laidTests := true, laidLooks := .later }
def ChainBackCardSaid : Prop := Claim7.holds Tryd.pinned (.plain (OpenSpec.ofChange chainBackSpec)) chainBackCard

/-- THE TIED CARD OF 'withylaw12.ChainParts'. -/
def chainPartsCard : Claim7 := { stood := { row := chainPartsRow, standIns := [], harness := (true, "ff44d5c825508d7b5ab660bc3d98b45fccda4e95d686f6d641d3b435f6de9b8d"), looks := true }, kinds := [], alts := [], laidByText := true, laidKinds := [.data, .pinned], laidTests := true, laidLooks := .later }
def ChainPartsCardSaid : Prop := Claim7.holds Tryd.pinned (.plain (OpenSpec.ofChange chainPartsSpec)) chainPartsCard

/-- THE TIED CARD OF 'withylaw12.ChainPages'. -/
def chainPagesCard : Claim7 := { stood := { row := chainPagesRow, standIns := [], harness := (true, "ff44d5c825508d7b5ab660bc3d98b45fccda4e95d686f6d641d3b435f6de9b8d"), looks := true }, kinds := [], alts := [], laidByText := true, laidKinds := [.data, .pinned], laidTests := true, laidLooks := .later }
def ChainPagesCardSaid : Prop := Claim7.holds Tryd.pinned (.plain (OpenSpec.ofChange chainPagesSpec)) chainPagesCard

/-- THE TIED CARD OF 'withylaw12.ChainEach'. -/
def chainEachCard : Claim7 := { stood := { row := chainEachRow, standIns := [], harness := (true, "ff44d5c825508d7b5ab660bc3d98b45fccda4e95d686f6d641d3b435f6de9b8d"), looks := true }, kinds := [], alts := [], laidByText := true, laidKinds := [.data, .pinned], laidTests := true, laidLooks := .later }
def ChainEachCardSaid : Prop := Claim7.holds Tryd.pinned (.plain (OpenSpec.ofChange chainEachSpec)) chainEachCard

/-- THE TIED CARD OF 'withylaw12.ChainLast'. -/
def chainLastCard : Claim7 := { stood := { row := chainLastRow, standIns := [], harness := (true, "ff44d5c825508d7b5ab660bc3d98b45fccda4e95d686f6d641d3b435f6de9b8d"), looks := true }, kinds := [], alts := [], laidByText := true, laidKinds := [.data, .pinned], laidTests := true, laidLooks := .later }
def ChainLastCardSaid : Prop := Claim7.holds Tryd.pinned (.plain (OpenSpec.ofChange chainLastSpec)) chainLastCard

/-- THE SECOND FORM's CARD OF 'withylaw12.ChainBack'. -/
def chainBackUptoCard : Claim7 := { stood := { row := chainBackUptoRow, standIns := [], harness := (true, "ff44d5c825508d7b5ab660bc3d98b45fccda4e95d686f6d641d3b435f6de9b8d"), looks := true }, kinds := [], alts := [], laidByText := true, laidKinds := [.data, .pinned], laidTests := true, laidLooks := .later }
def ChainBackUptoCardSaid : Prop := Claim7.holds Tryd.pinned (.plain (OpenSpec.upto chainBackSpec)) chainBackUptoCard

/-- THE SECOND FORM's CARD OF 'withylaw12.ChainParts'. -/
def chainPartsUptoCard : Claim7 := { stood := { row := chainPartsUptoRow, standIns := [], harness := (true, "ff44d5c825508d7b5ab660bc3d98b45fccda4e95d686f6d641d3b435f6de9b8d"), looks := true }, kinds := [], alts := [], laidByText := true, laidKinds := [.data, .pinned], laidTests := true, laidLooks := .later }
def ChainPartsUptoCardSaid : Prop := Claim7.holds Tryd.pinned (.plain (OpenSpec.upto chainPartsSpec)) chainPartsUptoCard

/-- THE SECOND FORM's CARD OF 'withylaw12.ChainPages'. -/
def chainPagesUptoCard : Claim7 := { stood := { row := chainPagesUptoRow, standIns := [], harness := (true, "ff44d5c825508d7b5ab660bc3d98b45fccda4e95d686f6d641d3b435f6de9b8d"), looks := true }, kinds := [], alts := [], laidByText := true, laidKinds := [.data, .pinned], laidTests := true, laidLooks := .later }
def ChainPagesUptoCardSaid : Prop := Claim7.holds Tryd.pinned (.plain (OpenSpec.upto chainPagesSpec)) chainPagesUptoCard

/-- THE SECOND FORM's CARD OF 'withylaw12.ChainEach'. -/
def chainEachUptoCard : Claim7 := { stood := { row := chainEachUptoRow, standIns := [], harness := (true, "ff44d5c825508d7b5ab660bc3d98b45fccda4e95d686f6d641d3b435f6de9b8d"), looks := true }, kinds := [], alts := [], laidByText := true, laidKinds := [.data, .pinned], laidTests := true, laidLooks := .later }
def ChainEachUptoCardSaid : Prop := Claim7.holds Tryd.pinned (.plain (OpenSpec.upto chainEachSpec)) chainEachUptoCard

/-- THE SECOND FORM's CARD OF 'withylaw12.ChainLast'. -/
def chainLastUptoCard : Claim7 := { stood := { row := chainLastUptoRow, standIns := [], harness := (true, "ff44d5c825508d7b5ab660bc3d98b45fccda4e95d686f6d641d3b435f6de9b8d"), looks := true }, kinds := [], alts := [], laidByText := true, laidKinds := [.data, .pinned], laidTests := true, laidLooks := .later }
def ChainLastUptoCardSaid : Prop := Claim7.holds Tryd.pinned (.plain (OpenSpec.upto chainLastSpec)) chainLastUptoCard
end Rows
end Go.Proofs.YtggfnlnonigkiaaDoor
