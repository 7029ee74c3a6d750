/-
  DERIVED. GIVEN WITH THE SEED: THE CARDS: each row of YtbidlahhpmdenaaDoorRows.lean that lists a variable, with what it lists TIED to the program's text (the seventh form; the later family's looks); each row that meets fmt, with fmt's text TOLD by the authors' own Lean function (tested against real Go, not proved from fmt's source: count such statements apart). THE CARD IS WHAT COUNTS. Prove the row's statement (the work); the ties are given (YtbidlahhpmdenaaDoorTie.lean); close each card by the builder's one call (the guide's Derived/Test/ToyasCard.lean, 'card_holds'). Laid BY PROGRAM, IN A SANDBOX (cutbox-door.mjs). By AI agents, Wed Nov 11 2026. No macro, syntax, notation, axiom, sorry.
-/
import Derived.Test.YtbidlahhpmdenaaDoorRows
import GoSem.ClaimSeven
namespace Go.Proofs.YtbidlahhpmdenaaDoor
namespace Rows

/-- THE TIED CARD OF 'cleanselaw15.PolyMatchesReference'. -/
def polyMatchesReferenceCard : Claim7 := { stood := { row := polyMatchesReferenceRow, standIns := [], harness := (true, "98403e3b7d207a4b40cd3aa4708699f9c4c6b52edbc18d6620fe65a6b75e63c8"), looks := false }, kinds := [], alts := [], laidByText := true, laidKinds := [.data, .data, .data], laidTests := true, laidLooks := .later }
def PolyMatchesReferenceCardSaid : Prop := Claim7.holds Tryd.pinned (.plain (OpenSpec.ofChange polyMatchesReferenceSpec)) polyMatchesReferenceCard

/-- THE TIED CARD OF 'cleanselaw15.PolyForm'. -/
def polyFormCard : Claim7 := { stood := { row := polyFormRow, standIns := [], harness := (true, "98403e3b7d207a4b40cd3aa4708699f9c4c6b52edbc18d6620fe65a6b75e63c8"), looks := false }, kinds := [], alts := [], laidByText := true, laidKinds := [.data, .data, .data], laidTests := true, laidLooks := .later }
def PolyFormCardSaid : Prop := Claim7.holds Tryd.pinned (.plain (OpenSpec.ofChange polyFormSpec)) polyFormCard

/-- THE TIED CARD OF 'cleanselaw15.PolyLaws'. -/
def polyLawsCard : Claim7 := { stood := { row := polyLawsRow, standIns := [], harness := (true, "98403e3b7d207a4b40cd3aa4708699f9c4c6b52edbc18d6620fe65a6b75e63c8"), looks := false }, kinds := [], alts := [], laidByText := true, laidKinds := [.data, .data, .data], laidTests := true, laidLooks := .later }
def PolyLawsCardSaid : Prop := Claim7.holds Tryd.pinned (.plain (OpenSpec.ofChange polyLawsSpec)) polyLawsCard

/-- THE TIED CARD OF 'cleanselaw15.PolyValues'. -/
def polyValuesCard : Claim7 := { stood := { row := polyValuesRow, standIns := [], harness := (true, "98403e3b7d207a4b40cd3aa4708699f9c4c6b52edbc18d6620fe65a6b75e63c8"), looks := false }, kinds := [], alts := [], laidByText := true, laidKinds := [.data, .data, .data], laidTests := true, laidLooks := .later }
def PolyValuesCardSaid : Prop := Claim7.holds Tryd.pinned (.plain (OpenSpec.ofChange polyValuesSpec)) polyValuesCard

/-- THE TIED CARD OF 'cleanselaw15.PolyUnits'. -/
def polyUnitsCard : Claim7 := { stood := { row := polyUnitsRow, standIns := [], harness := (true, "98403e3b7d207a4b40cd3aa4708699f9c4c6b52edbc18d6620fe65a6b75e63c8"), looks := false }, kinds := [], alts := [], laidByText := true, laidKinds := [.data, .data, .data], laidTests := true, laidLooks := .later }
def PolyUnitsCardSaid : Prop := Claim7.holds Tryd.pinned (.plain (OpenSpec.ofChange polyUnitsSpec)) polyUnitsCard

/-- THE TIED CARD OF 'cleanselaw15.PolyDeletes'. -/
def polyDeletesCard : Claim7 := { stood := { row := polyDeletesRow, standIns := [], harness := (true, "98403e3b7d207a4b40cd3aa4708699f9c4c6b52edbc18d6620fe65a6b75e63c8"), looks := false }, kinds := [], alts := [], laidByText := true, laidKinds := [.data, .data, .data], laidTests := true, laidLooks := .later }
def PolyDeletesCardSaid : Prop := Claim7.holds Tryd.pinned (.plain (OpenSpec.ofChange polyDeletesSpec)) polyDeletesCard

/-- THE TIED CARD OF 'cleanselaw15.PolyTexts'. -/
def polyTextsCard : Claim7 := { stood := { row := polyTextsRow, standIns := [], harness := (true, "98403e3b7d207a4b40cd3aa4708699f9c4c6b52edbc18d6620fe65a6b75e63c8"), looks := false }, kinds := [], alts := [], laidByText := true, laidKinds := [.data, .data, .data], laidTests := true, laidLooks := .later }
def PolyTextsCardSaid : Prop := Claim7.holds Tryd.pinned (.plain (OpenSpec.ofChange polyTextsSpec)) polyTextsCard

/-- THE SECOND FORM's CARD OF 'cleanselaw15.PolyMatchesReference'. -/
def polyMatchesReferenceUptoCard : Claim7 := { stood := { row := polyMatchesReferenceUptoRow, standIns := [], harness := (true, "98403e3b7d207a4b40cd3aa4708699f9c4c6b52edbc18d6620fe65a6b75e63c8"), looks := false }, kinds := [], alts := [], laidByText := true, laidKinds := [.data, .data, .data], laidTests := true, laidLooks := .later }
def PolyMatchesReferenceUptoCardSaid : Prop := Claim7.holds Tryd.pinned (.plain (OpenSpec.upto polyMatchesReferenceSpec)) polyMatchesReferenceUptoCard

/-- THE SECOND FORM's CARD OF 'cleanselaw15.PolyForm'. -/
def polyFormUptoCard : Claim7 := { stood := { row := polyFormUptoRow, standIns := [], harness := (true, "98403e3b7d207a4b40cd3aa4708699f9c4c6b52edbc18d6620fe65a6b75e63c8"), looks := false }, kinds := [], alts := [], laidByText := true, laidKinds := [.data, .data, .data], laidTests := true, laidLooks := .later }
def PolyFormUptoCardSaid : Prop := Claim7.holds Tryd.pinned (.plain (OpenSpec.upto polyFormSpec)) polyFormUptoCard

/-- THE SECOND FORM's CARD OF 'cleanselaw15.PolyLaws'. -/
def polyLawsUptoCard : Claim7 := { stood := { row := polyLawsUptoRow, standIns := [], harness := (true, "98403e3b7d207a4b40cd3aa4708699f9c4c6b52edbc18d6620fe65a6b75e63c8"), looks := false }, kinds := [], alts := [], laidByText := true, laidKinds := [.data, .data, .data], laidTests := true, laidLooks := .later }
def PolyLawsUptoCardSaid : Prop := Claim7.holds Tryd.pinned (.plain (OpenSpec.upto polyLawsSpec)) polyLawsUptoCard

/-- THE SECOND FORM's CARD OF 'cleanselaw15.PolyValues'. -/
def polyValuesUptoCard : Claim7 := { stood := { row := polyValuesUptoRow, standIns := [], harness := (true, "98403e3b7d207a4b40cd3aa4708699f9c4c6b52edbc18d6620fe65a6b75e63c8"), looks := false }, kinds := [], alts := [], laidByText := true, laidKinds := [.data, .data, .data], laidTests := true, laidLooks := .later }
def PolyValuesUptoCardSaid : Prop := Claim7.holds Tryd.pinned (.plain (OpenSpec.upto polyValuesSpec)) polyValuesUptoCard

/-- THE SECOND FORM's CARD OF 'cleanselaw15.PolyUnits'. -/
def polyUnitsUptoCard : Claim7 := { stood := { row := polyUnitsUptoRow, standIns := [], harness := (true, "98403e3b7d207a4b40cd3aa4708699f9c4c6b52edbc18d6620fe65a6b75e63c8"), looks := false }, kinds := [], alts := [], laidByText := true, laidKinds := [.data, .data, .data], laidTests := true, laidLooks := .later }
def PolyUnitsUptoCardSaid : Prop := Claim7.holds Tryd.pinned (.plain (OpenSpec.upto polyUnitsSpec)) polyUnitsUptoCard

/-- THE SECOND FORM's CARD OF 'cleanselaw15.PolyDeletes'. -/
def polyDeletesUptoCard : Claim7 := { stood := { row := polyDeletesUptoRow, standIns := [], harness := (true, "98403e3b7d207a4b40cd3aa4708699f9c4c6b52edbc18d6620fe65a6b75e63c8"), looks := false }, kinds := [], alts := [], laidByText := true, laidKinds := [.data, .data, .data], laidTests := true, laidLooks := .later }
def PolyDeletesUptoCardSaid : Prop := Claim7.holds Tryd.pinned (.plain (OpenSpec.upto polyDeletesSpec)) polyDeletesUptoCard

/-- THE SECOND FORM's CARD OF 'cleanselaw15.PolyTexts'. -/
def polyTextsUptoCard : Claim7 := { stood := { row := polyTextsUptoRow, standIns := [], harness := (true, "98403e3b7d207a4b40cd3aa4708699f9c4c6b52edbc18d6620fe65a6b75e63c8"), looks := false }, kinds := [], alts := [], laidByText := true, laidKinds := [.data, .data, .data], laidTests := true, laidLooks := .later }
def PolyTextsUptoCardSaid : Prop := Claim7.holds Tryd.pinned (.plain (OpenSpec.upto polyTextsSpec)) polyTextsUptoCard
end Rows
end Go.Proofs.YtbidlahhpmdenaaDoor
