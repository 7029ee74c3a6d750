/-
  DERIVED. GIVEN WITH THE SEED: THE CARDS: each row of YtibnojoffhlekaaGreatDoorRows.lean that lists a variable, with what it lists TIED to the program's text (the seventh form; the later family's looks); each row that meets fmt, with fmt's text TOLD by the authors' own Lean function (tested against real Go, not proved from fmt's source: count such statements apart). THE CARD IS WHAT COUNTS. Prove the row's statement (the work); the ties are given (YtibnojoffhlekaaGreatDoorTie.lean); close each card by the builder's one call (the guide's Derived/Test/ToyasCard.lean, 'card_holds'). Laid BY PROGRAM, IN A SANDBOX (cutbox-door.mjs). By AI agents, Wed Nov 11 2026. No macro, syntax, notation, axiom, sorry.
-/
import Derived.Test.YtibnojoffhlekaaGreatDoorRows
import GoSem.ClaimSeven
namespace Go.Proofs.YtibnojoffhlekaaGreatDoor
namespace Rows

/-- THE TIED CARD OF 'cleanselaw18.ReapMeans'. -/
def reapMeansCard : Claim7 := { stood := { row := reapMeansRow, standIns := [], harness := (true, "27dca92c1944dd05d262571f985d628e5a240f4bf771433ce6c406e9e014d1b4"), looks := false }, kinds := [], alts := [], laidByText := true, laidKinds := [.data, .data, .data], laidTests := true, laidLooks := .later }
def ReapMeansCardSaid : Prop := Claim7.holds Tryz.pinned (.plain (OpenSpec.ofChange reapMeansSpec)) reapMeansCard

/-- THE TIED CARD OF 'cleanselaw16.CircuitMatchesReference'. -/
def circuitMatchesReferenceCard : Claim7 := { stood := { row := circuitMatchesReferenceRow, standIns := [], harness := (true, "27dca92c1944dd05d262571f985d628e5a240f4bf771433ce6c406e9e014d1b4"), looks := false }, kinds := [], alts := [], laidByText := true, laidKinds := [.data, .data, .data], laidTests := true, laidLooks := .later }
def CircuitMatchesReferenceCardSaid : Prop := Claim7.holds Tryz.pinned (.plain (OpenSpec.ofChange circuitMatchesReferenceSpec)) circuitMatchesReferenceCard

/-- THE TIED CARD OF 'cleanselaw16.CircuitPolys'. -/
def circuitPolysCard : Claim7 := { stood := { row := circuitPolysRow, standIns := [], harness := (true, "27dca92c1944dd05d262571f985d628e5a240f4bf771433ce6c406e9e014d1b4"), looks := false }, kinds := [], alts := [], laidByText := true, laidKinds := [.data, .data, .data], laidTests := true, laidLooks := .later }
def CircuitPolysCardSaid : Prop := Claim7.holds Tryz.pinned (.plain (OpenSpec.ofChange circuitPolysSpec)) circuitPolysCard

/-- THE TIED CARD OF 'cleanselaw16.CircuitShares'. -/
def circuitSharesCard : Claim7 := { stood := { row := circuitSharesRow, standIns := [], harness := (true, "27dca92c1944dd05d262571f985d628e5a240f4bf771433ce6c406e9e014d1b4"), looks := false }, kinds := [], alts := [], laidByText := true, laidKinds := [.data, .data, .data], laidTests := true, laidLooks := .later }
def CircuitSharesCardSaid : Prop := Claim7.holds Tryz.pinned (.plain (OpenSpec.ofChange circuitSharesSpec)) circuitSharesCard

/-- THE TIED CARD OF 'cleanselaw16.CircuitMeans'. -/
def circuitMeansCard : Claim7 := { stood := { row := circuitMeansRow, standIns := [], harness := (true, "27dca92c1944dd05d262571f985d628e5a240f4bf771433ce6c406e9e014d1b4"), looks := false }, kinds := [], alts := [], laidByText := true, laidKinds := [.data, .data, .data], laidTests := true, laidLooks := .later }
def CircuitMeansCardSaid : Prop := Claim7.holds Tryz.pinned (.plain (OpenSpec.ofChange circuitMeansSpec)) circuitMeansCard

/-- THE TIED CARD OF 'cleanselaw16.CircuitTruth'. -/
def circuitTruthCard : Claim7 := { stood := { row := circuitTruthRow, standIns := [], harness := (true, "27dca92c1944dd05d262571f985d628e5a240f4bf771433ce6c406e9e014d1b4"), looks := false }, kinds := [], alts := [], laidByText := true, laidKinds := [.data, .data, .data], laidTests := true, laidLooks := .later }
def CircuitTruthCardSaid : Prop := Claim7.holds Tryz.pinned (.plain (OpenSpec.ofChange circuitTruthSpec)) circuitTruthCard

/-- THE TIED CARD OF 'cleanselaw16.CircuitCosts'. -/
def circuitCostsCard : Claim7 := { stood := { row := circuitCostsRow, standIns := [], harness := (true, "27dca92c1944dd05d262571f985d628e5a240f4bf771433ce6c406e9e014d1b4"), looks := false }, kinds := [], alts := [], laidByText := true, laidKinds := [.data, .data, .data], laidTests := true, laidLooks := .later }
def CircuitCostsCardSaid : Prop := Claim7.holds Tryz.pinned (.plain (OpenSpec.ofChange circuitCostsSpec)) circuitCostsCard

/-- THE TIED CARD OF 'cleanselaw16.CircuitValues'. -/
def circuitValuesCard : Claim7 := { stood := { row := circuitValuesRow, standIns := [], harness := (true, "27dca92c1944dd05d262571f985d628e5a240f4bf771433ce6c406e9e014d1b4"), looks := false }, kinds := [], alts := [], laidByText := true, laidKinds := [.data, .data, .data], laidTests := true, laidLooks := .later }
def CircuitValuesCardSaid : Prop := Claim7.holds Tryz.pinned (.plain (OpenSpec.ofChange circuitValuesSpec)) circuitValuesCard

/-- THE SECOND FORM's CARD OF 'cleanselaw18.ReapMeans'. -/
def reapMeansUptoCard : Claim7 := { stood := { row := reapMeansUptoRow, standIns := [], harness := (true, "27dca92c1944dd05d262571f985d628e5a240f4bf771433ce6c406e9e014d1b4"), looks := false }, kinds := [], alts := [], laidByText := true, laidKinds := [.data, .data, .data], laidTests := true, laidLooks := .later }
def ReapMeansUptoCardSaid : Prop := Claim7.holds Tryz.pinned (.plain (OpenSpec.upto reapMeansSpec)) reapMeansUptoCard

/-- THE SECOND FORM's CARD OF 'cleanselaw16.CircuitMatchesReference'. -/
def circuitMatchesReferenceUptoCard : Claim7 := { stood := { row := circuitMatchesReferenceUptoRow, standIns := [], harness := (true, "27dca92c1944dd05d262571f985d628e5a240f4bf771433ce6c406e9e014d1b4"), looks := false }, kinds := [], alts := [], laidByText := true, laidKinds := [.data, .data, .data], laidTests := true, laidLooks := .later }
def CircuitMatchesReferenceUptoCardSaid : Prop := Claim7.holds Tryz.pinned (.plain (OpenSpec.upto circuitMatchesReferenceSpec)) circuitMatchesReferenceUptoCard

/-- THE SECOND FORM's CARD OF 'cleanselaw16.CircuitPolys'. -/
def circuitPolysUptoCard : Claim7 := { stood := { row := circuitPolysUptoRow, standIns := [], harness := (true, "27dca92c1944dd05d262571f985d628e5a240f4bf771433ce6c406e9e014d1b4"), looks := false }, kinds := [], alts := [], laidByText := true, laidKinds := [.data, .data, .data], laidTests := true, laidLooks := .later }
def CircuitPolysUptoCardSaid : Prop := Claim7.holds Tryz.pinned (.plain (OpenSpec.upto circuitPolysSpec)) circuitPolysUptoCard

/-- THE SECOND FORM's CARD OF 'cleanselaw16.CircuitShares'. -/
def circuitSharesUptoCard : Claim7 := { stood := { row := circuitSharesUptoRow, standIns := [], harness := (true, "27dca92c1944dd05d262571f985d628e5a240f4bf771433ce6c406e9e014d1b4"), looks := false }, kinds := [], alts := [], laidByText := true, laidKinds := [.data, .data, .data], laidTests := true, laidLooks := .later }
def CircuitSharesUptoCardSaid : Prop := Claim7.holds Tryz.pinned (.plain (OpenSpec.upto circuitSharesSpec)) circuitSharesUptoCard

/-- THE SECOND FORM's CARD OF 'cleanselaw16.CircuitMeans'. -/
def circuitMeansUptoCard : Claim7 := { stood := { row := circuitMeansUptoRow, standIns := [], harness := (true, "27dca92c1944dd05d262571f985d628e5a240f4bf771433ce6c406e9e014d1b4"), looks := false }, kinds := [], alts := [], laidByText := true, laidKinds := [.data, .data, .data], laidTests := true, laidLooks := .later }
def CircuitMeansUptoCardSaid : Prop := Claim7.holds Tryz.pinned (.plain (OpenSpec.upto circuitMeansSpec)) circuitMeansUptoCard

/-- THE SECOND FORM's CARD OF 'cleanselaw16.CircuitTruth'. -/
def circuitTruthUptoCard : Claim7 := { stood := { row := circuitTruthUptoRow, standIns := [], harness := (true, "27dca92c1944dd05d262571f985d628e5a240f4bf771433ce6c406e9e014d1b4"), looks := false }, kinds := [], alts := [], laidByText := true, laidKinds := [.data, .data, .data], laidTests := true, laidLooks := .later }
def CircuitTruthUptoCardSaid : Prop := Claim7.holds Tryz.pinned (.plain (OpenSpec.upto circuitTruthSpec)) circuitTruthUptoCard

/-- THE SECOND FORM's CARD OF 'cleanselaw16.CircuitCosts'. -/
def circuitCostsUptoCard : Claim7 := { stood := { row := circuitCostsUptoRow, standIns := [], harness := (true, "27dca92c1944dd05d262571f985d628e5a240f4bf771433ce6c406e9e014d1b4"), looks := false }, kinds := [], alts := [], laidByText := true, laidKinds := [.data, .data, .data], laidTests := true, laidLooks := .later }
def CircuitCostsUptoCardSaid : Prop := Claim7.holds Tryz.pinned (.plain (OpenSpec.upto circuitCostsSpec)) circuitCostsUptoCard

/-- THE SECOND FORM's CARD OF 'cleanselaw16.CircuitValues'. -/
def circuitValuesUptoCard : Claim7 := { stood := { row := circuitValuesUptoRow, standIns := [], harness := (true, "27dca92c1944dd05d262571f985d628e5a240f4bf771433ce6c406e9e014d1b4"), looks := false }, kinds := [], alts := [], laidByText := true, laidKinds := [.data, .data, .data], laidTests := true, laidLooks := .later }
def CircuitValuesUptoCardSaid : Prop := Claim7.holds Tryz.pinned (.plain (OpenSpec.upto circuitValuesSpec)) circuitValuesUptoCard
end Rows
end Go.Proofs.YtibnojoffhlekaaGreatDoor
