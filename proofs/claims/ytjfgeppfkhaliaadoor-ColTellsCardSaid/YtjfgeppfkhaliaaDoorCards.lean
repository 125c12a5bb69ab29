/-
  DERIVED. GIVEN WITH THE SEED: THE CARDS: each row of YtjfgeppfkhaliaaDoorRows.lean that lists a variable, with what it lists TIED to the program's text (the seventh form; the later family's looks); each row that meets fmt, with fmt's text TOLD by the authors' own Lean function (tested against real Go, not proved from fmt's source: count such statements apart). THE CARD IS WHAT COUNTS. Prove the row's statement (the work); the ties are given (YtjfgeppfkhaliaaDoorTie.lean); close each card by the builder's one call (the guide's Derived/Test/ToyasCard.lean, 'card_holds'). Laid BY PROGRAM, IN A SANDBOX (cutbox-door.mjs). By AI agents, Wed Nov 11 2026. No macro, syntax, notation, axiom, sorry.
-/
import Derived.Test.YtjfgeppfkhaliaaDoorRows
import GoSem.ClaimSeven
namespace Go.Proofs.YtjfgeppfkhaliaaDoor
namespace Rows

/-- THE TIED CARD OF 'withylaw03.ColTells'. -/
def colTellsCard : Claim7 := { stood := { row := colTellsRow, standIns := [], harness := (true, "319b6591af1ddcb43500394964cdcc98b13ed12d8a8d25ad4fb627d80fd19fee"), looks := false }, kinds := [], alts := [], laidByText := true, laidKinds := [.data, .pinned], laidTests := true, laidLooks := .later }
def ColTellsCardSaid : Prop := Claim7.holds Tryd.pinned (.plain (OpenSpec.ofChange colTellsSpec)) colTellsCard

/-- THE TIED CARD OF 'withylaw03.ColOrder'. -/
def colOrderCard : Claim7 := { stood := { row := colOrderRow, standIns := [], harness := (true, "319b6591af1ddcb43500394964cdcc98b13ed12d8a8d25ad4fb627d80fd19fee"), looks := false }, kinds := [], alts := [], laidByText := true, laidKinds := [.data, .pinned], laidTests := true, laidLooks := .later }
def ColOrderCardSaid : Prop := Claim7.holds Tryd.pinned (.plain (OpenSpec.ofChange colOrderSpec)) colOrderCard

/-- THE TIED CARD OF 'withylaw03.ColBack'. -/
def colBackCard : Claim7 := { stood := { row := colBackRow, standIns := [], harness := (true, "319b6591af1ddcb43500394964cdcc98b13ed12d8a8d25ad4fb627d80fd19fee"), looks := false }, kinds := [], alts := [], laidByText := true, laidKinds := [.data, .pinned], laidTests := true, laidLooks := .later }
def ColBackCardSaid : Prop := Claim7.holds Tryd.pinned (.plain (OpenSpec.ofChange colBackSpec)) colBackCard

/-- THE TIED CARD OF 'withylaw03.ColOnce'. -/
def colOnceCard : Claim7 := { stood := { row := colOnceRow, standIns := [], harness := (true, "319b6591af1ddcb43500394964cdcc98b13ed12d8a8d25ad4fb627d80fd19fee"), looks := false }, kinds := [], alts := [], laidByText := true, laidKinds := [.data, .pinned], laidTests := true, laidLooks := .later }
def ColOnceCardSaid : Prop := Claim7.holds Tryd.pinned (.plain (OpenSpec.ofChange colOnceSpec)) colOnceCard

/-- THE TIED CARD OF 'withylaw03.ColThree'. -/
def colThreeCard : Claim7 := { stood := { row := colThreeRow, standIns := [], harness := (true, "319b6591af1ddcb43500394964cdcc98b13ed12d8a8d25ad4fb627d80fd19fee"), looks := false }, kinds := [], alts := [], laidByText := true, laidKinds := [.data, .pinned], laidTests := true, laidLooks := .later }
def ColThreeCardSaid : Prop := Claim7.holds Tryd.pinned (.plain (OpenSpec.ofChange colThreeSpec)) colThreeCard

/-- THE TIED CARD OF 'withylaw03.ColSizes'. -/
def colSizesCard : Claim7 := { stood := { row := colSizesRow, standIns := [], harness := (true, "319b6591af1ddcb43500394964cdcc98b13ed12d8a8d25ad4fb627d80fd19fee"), looks := false }, kinds := [], alts := [], laidByText := true, laidKinds := [.data, .pinned], laidTests := true, laidLooks := .later }
def ColSizesCardSaid : Prop := Claim7.holds Tryd.pinned (.plain (OpenSpec.ofChange colSizesSpec)) colSizesCard

/-- THE SECOND FORM's CARD OF 'withylaw03.ColTells'. -/
def colTellsUptoCard : Claim7 := { stood := { row := colTellsUptoRow, standIns := [], harness := (true, "319b6591af1ddcb43500394964cdcc98b13ed12d8a8d25ad4fb627d80fd19fee"), looks := false }, kinds := [], alts := [], laidByText := true, laidKinds := [.data, .pinned], laidTests := true, laidLooks := .later }
def ColTellsUptoCardSaid : Prop := Claim7.holds Tryd.pinned (.plain (OpenSpec.upto colTellsSpec)) colTellsUptoCard

/-- THE SECOND FORM's CARD OF 'withylaw03.ColOrder'. -/
def colOrderUptoCard : Claim7 := { stood := { row := colOrderUptoRow, standIns := [], harness := (true, "319b6591af1ddcb43500394964cdcc98b13ed12d8a8d25ad4fb627d80fd19fee"), looks := false }, kinds := [], alts := [], laidByText := true, laidKinds := [.data, .pinned], laidTests := true, laidLooks := .later }
def ColOrderUptoCardSaid : Prop := Claim7.holds Tryd.pinned (.plain (OpenSpec.upto colOrderSpec)) colOrderUptoCard

/-- THE SECOND FORM's CARD OF 'withylaw03.ColBack'. -/
def colBackUptoCard : Claim7 := { stood := { row := colBackUptoRow, standIns := [], harness := (true, "319b6591af1ddcb43500394964cdcc98b13ed12d8a8d25ad4fb627d80fd19fee"), looks := false }, kinds := [], alts := [], laidByText := true, laidKinds := [.data, .pinned], laidTests := true, laidLooks := .later }
def ColBackUptoCardSaid : Prop := Claim7.holds Tryd.pinned (.plain (OpenSpec.upto colBackSpec)) colBackUptoCard

/-- THE SECOND FORM's CARD OF 'withylaw03.ColOnce'. -/
def colOnceUptoCard : Claim7 := { stood := { row := colOnceUptoRow, standIns := [], harness := (true, "319b6591af1ddcb43500394964cdcc98b13ed12d8a8d25ad4fb627d80fd19fee"), looks := false }, kinds := [], alts := [], laidByText := true, laidKinds := [.data, .pinned], laidTests := true, laidLooks := .later }
def ColOnceUptoCardSaid : Prop := Claim7.holds Tryd.pinned (.plain (OpenSpec.upto colOnceSpec)) colOnceUptoCard

/-- THE SECOND FORM's CARD OF 'withylaw03.ColThree'. -/
def colThreeUptoCard : Claim7 := { stood := { row := colThreeUptoRow, standIns := [], harness := (true, "319b6591af1ddcb43500394964cdcc98b13ed12d8a8d25ad4fb627d80fd19fee"), looks := false }, kinds := [], alts := [], laidByText := true, laidKinds := [.data, .pinned], laidTests := true, laidLooks := .later }
def ColThreeUptoCardSaid : Prop := Claim7.holds Tryd.pinned (.plain (OpenSpec.upto colThreeSpec)) colThreeUptoCard

/-- THE SECOND FORM's CARD OF 'withylaw03.ColSizes'. -/
def colSizesUptoCard : Claim7 := { stood := { row := colSizesUptoRow, standIns := [], harness := (true, "319b6591af1ddcb43500394964cdcc98b13ed12d8a8d25ad4fb627d80fd19fee"), looks := false }, kinds := [], alts := [], laidByText := true, laidKinds := [.data, .pinned], laidTests := true, laidLooks := .later }
def ColSizesUptoCardSaid : Prop := Claim7.holds Tryd.pinned (.plain (OpenSpec.upto colSizesSpec)) colSizesUptoCard
end Rows
end Go.Proofs.YtjfgeppfkhaliaaDoor
