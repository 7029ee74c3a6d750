/-
  DERIVED. GIVEN WITH THE SEED: THE CARDS: each row of YtjlighbppoffhaaDoorRows.lean that lists a variable, with what it lists TIED to the program's text (the seventh form; the later family's looks); each row that meets fmt, with fmt's text TOLD by the authors' own Lean function (tested against real Go, not proved from fmt's source: count such statements apart). THE CARD IS WHAT COUNTS. Prove the row's statement (the work); the ties are given (YtjlighbppoffhaaDoorTie.lean); close each card by the builder's one call (the guide's Derived/Test/ToyasCard.lean, 'card_holds'). Laid BY PROGRAM, IN A SANDBOX (cutbox-door.mjs). By AI agents, Wed Nov 11 2026. No macro, syntax, notation, axiom, sorry.
-/
import Derived.Test.YtjlighbppoffhaaDoorRows
import GoSem.ClaimSeven
namespace Go.Proofs.YtjlighbppoffhaaDoor
namespace Rows

/-- THE TIED CARD OF 'cleanselaw04.MeasureMatchesReference'. -/
def measureMatchesReferenceCard : Claim7 := { stood := { row := measureMatchesReferenceRow, standIns := [], harness := (true, "3285f7e2fd3775dddbf2bfe625818b71ae85cd199c31d194fb6913484a04fd5f"), looks := false }, kinds := [], alts := [], laidByText := true, laidKinds := [.data, .data], laidTests := true, laidLooks := .later }
def MeasureMatchesReferenceCardSaid : Prop := Claim7.holds Tryd.pinned (.plain (OpenSpec.ofChange measureMatchesReferenceSpec)) measureMatchesReferenceCard

/-- THE TIED CARD OF 'cleanselaw04.MeasureMetric'. -/
def measureMetricCard : Claim7 := { stood := { row := measureMetricRow, standIns := [], harness := (true, "3285f7e2fd3775dddbf2bfe625818b71ae85cd199c31d194fb6913484a04fd5f"), looks := false }, kinds := [], alts := [], laidByText := true, laidKinds := [.data, .data], laidTests := true, laidLooks := .later }
def MeasureMetricCardSaid : Prop := Claim7.holds Tryd.pinned (.plain (OpenSpec.ofChange measureMetricSpec)) measureMetricCard

/-- THE TIED CARD OF 'cleanselaw04.MeasureParts'. -/
def measurePartsCard : Claim7 := { stood := { row := measurePartsRow, standIns := [], harness := (true, "3285f7e2fd3775dddbf2bfe625818b71ae85cd199c31d194fb6913484a04fd5f"), looks := false }, kinds := [], alts := [], laidByText := true, laidKinds := [.data, .data], laidTests := true, laidLooks := .later }
def MeasurePartsCardSaid : Prop := Claim7.holds Tryd.pinned (.plain (OpenSpec.ofChange measurePartsSpec)) measurePartsCard

/-- THE TIED CARD OF 'cleanselaw04.MeasureSimilar'. -/
def measureSimilarCard : Claim7 := { stood := { row := measureSimilarRow, standIns := [], harness := (true, "3285f7e2fd3775dddbf2bfe625818b71ae85cd199c31d194fb6913484a04fd5f"), looks := false }, kinds := [], alts := [], laidByText := true, laidKinds := [.data, .data], laidTests := true, laidLooks := .later }
def MeasureSimilarCardSaid : Prop := Claim7.holds Tryd.pinned (.plain (OpenSpec.ofChange measureSimilarSpec)) measureSimilarCard

/-- THE TIED CARD OF 'cleanselaw04.MeasureJaro'. -/
def measureJaroCard : Claim7 := { stood := { row := measureJaroRow, standIns := [], harness := (true, "3285f7e2fd3775dddbf2bfe625818b71ae85cd199c31d194fb6913484a04fd5f"), looks := false }, kinds := [], alts := [], laidByText := true, laidKinds := [.data, .data], laidTests := true, laidLooks := .later }
def MeasureJaroCardSaid : Prop := Claim7.holds Tryd.pinned (.plain (OpenSpec.ofChange measureJaroSpec)) measureJaroCard

/-- THE TIED CARD OF 'cleanselaw04.MeasureValues'. -/
def measureValuesCard : Claim7 := { stood := { row := measureValuesRow, standIns := [], harness := (true, "3285f7e2fd3775dddbf2bfe625818b71ae85cd199c31d194fb6913484a04fd5f"), looks := false }, kinds := [], alts := [], laidByText := true, laidKinds := [.data, .data], laidTests := true, laidLooks := .later }
def MeasureValuesCardSaid : Prop := Claim7.holds Tryd.pinned (.plain (OpenSpec.ofChange measureValuesSpec)) measureValuesCard

/-- THE TIED CARD OF 'cleanselaw04.MeasureNears'. -/
def measureNearsCard : Claim7 := { stood := { row := measureNearsRow, standIns := [], harness := (true, "3285f7e2fd3775dddbf2bfe625818b71ae85cd199c31d194fb6913484a04fd5f"), looks := false }, kinds := [], alts := [], laidByText := true, laidKinds := [.data, .data], laidTests := true, laidLooks := .later }
def MeasureNearsCardSaid : Prop := Claim7.holds Tryd.pinned (.plain (OpenSpec.ofChange measureNearsSpec)) measureNearsCard

/-- THE TIED CARD OF 'cleanselaw04.MeasureSets'. -/
def measureSetsCard : Claim7 := { stood := { row := measureSetsRow, standIns := [], harness := (true, "3285f7e2fd3775dddbf2bfe625818b71ae85cd199c31d194fb6913484a04fd5f"), looks := false }, kinds := [], alts := [], laidByText := true, laidKinds := [.data, .data], laidTests := true, laidLooks := .later }
def MeasureSetsCardSaid : Prop := Claim7.holds Tryd.pinned (.plain (OpenSpec.ofChange measureSetsSpec)) measureSetsCard

/-- THE SECOND FORM's CARD OF 'cleanselaw04.MeasureMatchesReference'. -/
def measureMatchesReferenceUptoCard : Claim7 := { stood := { row := measureMatchesReferenceUptoRow, standIns := [], harness := (true, "3285f7e2fd3775dddbf2bfe625818b71ae85cd199c31d194fb6913484a04fd5f"), looks := false }, kinds := [], alts := [], laidByText := true, laidKinds := [.data, .data], laidTests := true, laidLooks := .later }
def MeasureMatchesReferenceUptoCardSaid : Prop := Claim7.holds Tryd.pinned (.plain (OpenSpec.upto measureMatchesReferenceSpec)) measureMatchesReferenceUptoCard

/-- THE SECOND FORM's CARD OF 'cleanselaw04.MeasureMetric'. -/
def measureMetricUptoCard : Claim7 := { stood := { row := measureMetricUptoRow, standIns := [], harness := (true, "3285f7e2fd3775dddbf2bfe625818b71ae85cd199c31d194fb6913484a04fd5f"), looks := false }, kinds := [], alts := [], laidByText := true, laidKinds := [.data, .data], laidTests := true, laidLooks := .later }
def MeasureMetricUptoCardSaid : Prop := Claim7.holds Tryd.pinned (.plain (OpenSpec.upto measureMetricSpec)) measureMetricUptoCard

/-- THE SECOND FORM's CARD OF 'cleanselaw04.MeasureParts'. -/
def measurePartsUptoCard : Claim7 := { stood := { row := measurePartsUptoRow, standIns := [], harness := (true, "3285f7e2fd3775dddbf2bfe625818b71ae85cd199c31d194fb6913484a04fd5f"), looks := false }, kinds := [], alts := [], laidByText := true, laidKinds := [.data, .data], laidTests := true, laidLooks := .later }
def MeasurePartsUptoCardSaid : Prop := Claim7.holds Tryd.pinned (.plain (OpenSpec.upto measurePartsSpec)) measurePartsUptoCard

/-- THE SECOND FORM's CARD OF 'cleanselaw04.MeasureSimilar'. -/
def measureSimilarUptoCard : Claim7 := { stood := { row := measureSimilarUptoRow, standIns := [], harness := (true, "3285f7e2fd3775dddbf2bfe625818b71ae85cd199c31d194fb6913484a04fd5f"), looks := false }, kinds := [], alts := [], laidByText := true, laidKinds := [.data, .data], laidTests := true, laidLooks := .later }
def MeasureSimilarUptoCardSaid : Prop := Claim7.holds Tryd.pinned (.plain (OpenSpec.upto measureSimilarSpec)) measureSimilarUptoCard

/-- THE SECOND FORM's CARD OF 'cleanselaw04.MeasureJaro'. -/
def measureJaroUptoCard : Claim7 := { stood := { row := measureJaroUptoRow, standIns := [], harness := (true, "3285f7e2fd3775dddbf2bfe625818b71ae85cd199c31d194fb6913484a04fd5f"), looks := false }, kinds := [], alts := [], laidByText := true, laidKinds := [.data, .data], laidTests := true, laidLooks := .later }
def MeasureJaroUptoCardSaid : Prop := Claim7.holds Tryd.pinned (.plain (OpenSpec.upto measureJaroSpec)) measureJaroUptoCard

/-- THE SECOND FORM's CARD OF 'cleanselaw04.MeasureValues'. -/
def measureValuesUptoCard : Claim7 := { stood := { row := measureValuesUptoRow, standIns := [], harness := (true, "3285f7e2fd3775dddbf2bfe625818b71ae85cd199c31d194fb6913484a04fd5f"), looks := false }, kinds := [], alts := [], laidByText := true, laidKinds := [.data, .data], laidTests := true, laidLooks := .later }
def MeasureValuesUptoCardSaid : Prop := Claim7.holds Tryd.pinned (.plain (OpenSpec.upto measureValuesSpec)) measureValuesUptoCard

/-- THE SECOND FORM's CARD OF 'cleanselaw04.MeasureNears'. -/
def measureNearsUptoCard : Claim7 := { stood := { row := measureNearsUptoRow, standIns := [], harness := (true, "3285f7e2fd3775dddbf2bfe625818b71ae85cd199c31d194fb6913484a04fd5f"), looks := false }, kinds := [], alts := [], laidByText := true, laidKinds := [.data, .data], laidTests := true, laidLooks := .later }
def MeasureNearsUptoCardSaid : Prop := Claim7.holds Tryd.pinned (.plain (OpenSpec.upto measureNearsSpec)) measureNearsUptoCard

/-- THE SECOND FORM's CARD OF 'cleanselaw04.MeasureSets'. -/
def measureSetsUptoCard : Claim7 := { stood := { row := measureSetsUptoRow, standIns := [], harness := (true, "3285f7e2fd3775dddbf2bfe625818b71ae85cd199c31d194fb6913484a04fd5f"), looks := false }, kinds := [], alts := [], laidByText := true, laidKinds := [.data, .data], laidTests := true, laidLooks := .later }
def MeasureSetsUptoCardSaid : Prop := Claim7.holds Tryd.pinned (.plain (OpenSpec.upto measureSetsSpec)) measureSetsUptoCard
end Rows
end Go.Proofs.YtjlighbppoffhaaDoor
