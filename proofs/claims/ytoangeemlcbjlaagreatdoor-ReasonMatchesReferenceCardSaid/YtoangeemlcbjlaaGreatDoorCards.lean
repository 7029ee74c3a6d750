/-
  DERIVED. GIVEN WITH THE SEED: THE CARDS: each row of YtoangeemlcbjlaaGreatDoorRows.lean that lists a variable, with what it lists TIED to the program's text (the seventh form; the later family's looks); each row that meets fmt, with fmt's text TOLD by the authors' own Lean function (tested against real Go, not proved from fmt's source: count such statements apart). THE CARD IS WHAT COUNTS. Prove the row's statement (the work); the ties are given (YtoangeemlcbjlaaGreatDoorTie.lean); close each card by the builder's one call (the guide's Derived/Test/ToyasCard.lean, 'card_holds'). Laid BY PROGRAM, IN A SANDBOX (cutbox-door.mjs). By AI agents, Wed Nov 11 2026. No macro, syntax, notation, axiom, sorry.
-/
import Derived.Test.YtoangeemlcbjlaaGreatDoorRows
import GoSem.ClaimSeven
namespace Go.Proofs.YtoangeemlcbjlaaGreatDoor
namespace Rows

/-- THE TIED CARD OF 'cleanselaw17.ReasonMatchesReference'. -/
def reasonMatchesReferenceCard : Claim7 := { stood := { row := reasonMatchesReferenceRow, standIns := [], harness := (true, "10bbb99c7af885d01d949051b5f01339e3ebaba42ab64802a5dc78b712f934d9"), looks := false }, kinds := [], alts := [], laidByText := true, laidKinds := [.data, .data, .data], laidTests := true, laidLooks := .later }
def ReasonMatchesReferenceCardSaid : Prop := Claim7.holds Tryz.pinned (.plain (OpenSpec.ofChange reasonMatchesReferenceSpec)) reasonMatchesReferenceCard

/-- THE TIED CARD OF 'cleanselaw17.ReasonEnough'. -/
def reasonEnoughCard : Claim7 := { stood := { row := reasonEnoughRow, standIns := [], harness := (true, "10bbb99c7af885d01d949051b5f01339e3ebaba42ab64802a5dc78b712f934d9"), looks := false }, kinds := [], alts := [], laidByText := true, laidKinds := [.data, .data, .data], laidTests := true, laidLooks := .later }
def ReasonEnoughCardSaid : Prop := Claim7.holds Tryz.pinned (.plain (OpenSpec.ofChange reasonEnoughSpec)) reasonEnoughCard

/-- THE TIED CARD OF 'cleanselaw17.ReasonAll'. -/
def reasonAllCard : Claim7 := { stood := { row := reasonAllRow, standIns := [], harness := (true, "10bbb99c7af885d01d949051b5f01339e3ebaba42ab64802a5dc78b712f934d9"), looks := false }, kinds := [], alts := [], laidByText := true, laidKinds := [.data, .data, .data], laidTests := true, laidLooks := .later }
def ReasonAllCardSaid : Prop := Claim7.holds Tryz.pinned (.plain (OpenSpec.ofChange reasonAllSpec)) reasonAllCard

/-- THE TIED CARD OF 'cleanselaw17.ReasonNeeded'. -/
def reasonNeededCard : Claim7 := { stood := { row := reasonNeededRow, standIns := [], harness := (true, "10bbb99c7af885d01d949051b5f01339e3ebaba42ab64802a5dc78b712f934d9"), looks := false }, kinds := [], alts := [], laidByText := true, laidKinds := [.data, .data, .data], laidTests := true, laidLooks := .later }
def ReasonNeededCardSaid : Prop := Claim7.holds Tryz.pinned (.plain (OpenSpec.ofChange reasonNeededSpec)) reasonNeededCard

/-- THE TIED CARD OF 'cleanselaw17.ReasonWhyNot'. -/
def reasonWhyNotCard : Claim7 := { stood := { row := reasonWhyNotRow, standIns := [], harness := (true, "10bbb99c7af885d01d949051b5f01339e3ebaba42ab64802a5dc78b712f934d9"), looks := false }, kinds := [], alts := [], laidByText := true, laidKinds := [.data, .data, .data], laidTests := true, laidLooks := .later }
def ReasonWhyNotCardSaid : Prop := Claim7.holds Tryz.pinned (.plain (OpenSpec.ofChange reasonWhyNotSpec)) reasonWhyNotCard

/-- THE TIED CARD OF 'cleanselaw17.ReasonEffects'. -/
def reasonEffectsCard : Claim7 := { stood := { row := reasonEffectsRow, standIns := [], harness := (true, "10bbb99c7af885d01d949051b5f01339e3ebaba42ab64802a5dc78b712f934d9"), looks := false }, kinds := [], alts := [], laidByText := true, laidKinds := [.data, .data, .data], laidTests := true, laidLooks := .later }
def ReasonEffectsCardSaid : Prop := Claim7.holds Tryz.pinned (.plain (OpenSpec.ofChange reasonEffectsSpec)) reasonEffectsCard

/-- THE TIED CARD OF 'cleanselaw17.ReasonSums'. -/
def reasonSumsCard : Claim7 := { stood := { row := reasonSumsRow, standIns := [], harness := (true, "10bbb99c7af885d01d949051b5f01339e3ebaba42ab64802a5dc78b712f934d9"), looks := false }, kinds := [], alts := [], laidByText := true, laidKinds := [.data, .data, .data], laidTests := true, laidLooks := .later }
def ReasonSumsCardSaid : Prop := Claim7.holds Tryz.pinned (.plain (OpenSpec.ofChange reasonSumsSpec)) reasonSumsCard

/-- THE SECOND FORM's CARD OF 'cleanselaw17.ReasonMatchesReference'. -/
def reasonMatchesReferenceUptoCard : Claim7 := { stood := { row := reasonMatchesReferenceUptoRow, standIns := [], harness := (true, "10bbb99c7af885d01d949051b5f01339e3ebaba42ab64802a5dc78b712f934d9"), looks := false }, kinds := [], alts := [], laidByText := true, laidKinds := [.data, .data, .data], laidTests := true, laidLooks := .later }
def ReasonMatchesReferenceUptoCardSaid : Prop := Claim7.holds Tryz.pinned (.plain (OpenSpec.upto reasonMatchesReferenceSpec)) reasonMatchesReferenceUptoCard

/-- THE SECOND FORM's CARD OF 'cleanselaw17.ReasonEnough'. -/
def reasonEnoughUptoCard : Claim7 := { stood := { row := reasonEnoughUptoRow, standIns := [], harness := (true, "10bbb99c7af885d01d949051b5f01339e3ebaba42ab64802a5dc78b712f934d9"), looks := false }, kinds := [], alts := [], laidByText := true, laidKinds := [.data, .data, .data], laidTests := true, laidLooks := .later }
def ReasonEnoughUptoCardSaid : Prop := Claim7.holds Tryz.pinned (.plain (OpenSpec.upto reasonEnoughSpec)) reasonEnoughUptoCard

/-- THE SECOND FORM's CARD OF 'cleanselaw17.ReasonAll'. -/
def reasonAllUptoCard : Claim7 := { stood := { row := reasonAllUptoRow, standIns := [], harness := (true, "10bbb99c7af885d01d949051b5f01339e3ebaba42ab64802a5dc78b712f934d9"), looks := false }, kinds := [], alts := [], laidByText := true, laidKinds := [.data, .data, .data], laidTests := true, laidLooks := .later }
def ReasonAllUptoCardSaid : Prop := Claim7.holds Tryz.pinned (.plain (OpenSpec.upto reasonAllSpec)) reasonAllUptoCard

/-- THE SECOND FORM's CARD OF 'cleanselaw17.ReasonNeeded'. -/
def reasonNeededUptoCard : Claim7 := { stood := { row := reasonNeededUptoRow, standIns := [], harness := (true, "10bbb99c7af885d01d949051b5f01339e3ebaba42ab64802a5dc78b712f934d9"), looks := false }, kinds := [], alts := [], laidByText := true, laidKinds := [.data, .data, .data], laidTests := true, laidLooks := .later }
def ReasonNeededUptoCardSaid : Prop := Claim7.holds Tryz.pinned (.plain (OpenSpec.upto reasonNeededSpec)) reasonNeededUptoCard

/-- THE SECOND FORM's CARD OF 'cleanselaw17.ReasonWhyNot'. -/
def reasonWhyNotUptoCard : Claim7 := { stood := { row := reasonWhyNotUptoRow, standIns := [], harness := (true, "10bbb99c7af885d01d949051b5f01339e3ebaba42ab64802a5dc78b712f934d9"), looks := false }, kinds := [], alts := [], laidByText := true, laidKinds := [.data, .data, .data], laidTests := true, laidLooks := .later }
def ReasonWhyNotUptoCardSaid : Prop := Claim7.holds Tryz.pinned (.plain (OpenSpec.upto reasonWhyNotSpec)) reasonWhyNotUptoCard

/-- THE SECOND FORM's CARD OF 'cleanselaw17.ReasonEffects'. -/
def reasonEffectsUptoCard : Claim7 := { stood := { row := reasonEffectsUptoRow, standIns := [], harness := (true, "10bbb99c7af885d01d949051b5f01339e3ebaba42ab64802a5dc78b712f934d9"), looks := false }, kinds := [], alts := [], laidByText := true, laidKinds := [.data, .data, .data], laidTests := true, laidLooks := .later }
def ReasonEffectsUptoCardSaid : Prop := Claim7.holds Tryz.pinned (.plain (OpenSpec.upto reasonEffectsSpec)) reasonEffectsUptoCard

/-- THE SECOND FORM's CARD OF 'cleanselaw17.ReasonSums'. -/
def reasonSumsUptoCard : Claim7 := { stood := { row := reasonSumsUptoRow, standIns := [], harness := (true, "10bbb99c7af885d01d949051b5f01339e3ebaba42ab64802a5dc78b712f934d9"), looks := false }, kinds := [], alts := [], laidByText := true, laidKinds := [.data, .data, .data], laidTests := true, laidLooks := .later }
def ReasonSumsUptoCardSaid : Prop := Claim7.holds Tryz.pinned (.plain (OpenSpec.upto reasonSumsSpec)) reasonSumsUptoCard
end Rows
end Go.Proofs.YtoangeemlcbjlaaGreatDoor
