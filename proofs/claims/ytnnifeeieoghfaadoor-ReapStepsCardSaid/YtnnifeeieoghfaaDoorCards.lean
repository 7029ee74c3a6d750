/-
  DERIVED. GIVEN WITH THE SEED: THE CARDS: each row of YtnnifeeieoghfaaDoorRows.lean that lists a variable, with what it lists TIED to the program's text (the seventh form; the later family's looks); each row that meets fmt, with fmt's text TOLD by the authors' own Lean function (tested against real Go, not proved from fmt's source: count such statements apart). THE CARD IS WHAT COUNTS. Prove the row's statement (the work); the ties are given (YtnnifeeieoghfaaDoorTie.lean); close each card by the builder's one call (the guide's Derived/Test/ToyasCard.lean, 'card_holds'). Laid BY PROGRAM, IN A SANDBOX (cutbox-door.mjs). By AI agents, Wed Nov 11 2026. No macro, syntax, notation, axiom, sorry.
-/
import Derived.Test.YtnnifeeieoghfaaDoorRows
import GoSem.ClaimSeven
namespace Go.Proofs.YtnnifeeieoghfaaDoor
namespace Rows

/-- THE TIED CARD OF 'cleanselaw18.ReapMatchesReference'. -/
def reapMatchesReferenceCard : Claim7 := { stood := { row := reapMatchesReferenceRow, standIns := [], harness := (true, "5ea202ba02dfce5e44937f6b4ebd531a6c9e4c2ac24ef8adaf3fdf72529ea03e"), looks := false }, kinds := [], alts := [], laidByText := true, laidKinds := [.data, .data, .data], laidTests := true, laidLooks := .later }
def ReapMatchesReferenceCardSaid : Prop := Claim7.holds Tryd.pinned (.plain (OpenSpec.ofChange reapMatchesReferenceSpec)) reapMatchesReferenceCard

/-- THE TIED CARD OF 'cleanselaw18.ReapFew'. -/
def reapFewCard : Claim7 := { stood := { row := reapFewRow, standIns := [], harness := (true, "5ea202ba02dfce5e44937f6b4ebd531a6c9e4c2ac24ef8adaf3fdf72529ea03e"), looks := false }, kinds := [], alts := [], laidByText := true, laidKinds := [.data, .data, .data], laidTests := true, laidLooks := .later }
def ReapFewCardSaid : Prop := Claim7.holds Tryd.pinned (.plain (OpenSpec.ofChange reapFewSpec)) reapFewCard

/-- THE TIED CARD OF 'cleanselaw18.ReapSteps'. -/
def reapStepsCard : Claim7 := { stood := { row := reapStepsRow, standIns := [], harness := (true, "5ea202ba02dfce5e44937f6b4ebd531a6c9e4c2ac24ef8adaf3fdf72529ea03e"), looks := false }, kinds := [], alts := [], laidByText := true, laidKinds := [.data, .data, .data], laidTests := true, laidLooks := .later }
def ReapStepsCardSaid : Prop := Claim7.holds Tryd.pinned (.plain (OpenSpec.ofChange reapStepsSpec)) reapStepsCard

/-- THE TIED CARD OF 'cleanselaw18.ReapRoots'. -/
def reapRootsCard : Claim7 := { stood := { row := reapRootsRow, standIns := [], harness := (true, "5ea202ba02dfce5e44937f6b4ebd531a6c9e4c2ac24ef8adaf3fdf72529ea03e"), looks := false }, kinds := [], alts := [], laidByText := true, laidKinds := [.data, .data, .data], laidTests := true, laidLooks := .later }
def ReapRootsCardSaid : Prop := Claim7.holds Tryd.pinned (.plain (OpenSpec.ofChange reapRootsSpec)) reapRootsCard

/-- THE SECOND FORM's CARD OF 'cleanselaw18.ReapMatchesReference'. -/
def reapMatchesReferenceUptoCard : Claim7 := { stood := { row := reapMatchesReferenceUptoRow, standIns := [], harness := (true, "5ea202ba02dfce5e44937f6b4ebd531a6c9e4c2ac24ef8adaf3fdf72529ea03e"), looks := false }, kinds := [], alts := [], laidByText := true, laidKinds := [.data, .data, .data], laidTests := true, laidLooks := .later }
def ReapMatchesReferenceUptoCardSaid : Prop := Claim7.holds Tryd.pinned (.plain (OpenSpec.upto reapMatchesReferenceSpec)) reapMatchesReferenceUptoCard

/-- THE SECOND FORM's CARD OF 'cleanselaw18.ReapFew'. -/
def reapFewUptoCard : Claim7 := { stood := { row := reapFewUptoRow, standIns := [], harness := (true, "5ea202ba02dfce5e44937f6b4ebd531a6c9e4c2ac24ef8adaf3fdf72529ea03e"), looks := false }, kinds := [], alts := [], laidByText := true, laidKinds := [.data, .data, .data], laidTests := true, laidLooks := .later }
def ReapFewUptoCardSaid : Prop := Claim7.holds Tryd.pinned (.plain (OpenSpec.upto reapFewSpec)) reapFewUptoCard

/-- THE SECOND FORM's CARD OF 'cleanselaw18.ReapSteps'. -/
def reapStepsUptoCard : Claim7 := { stood := { row := reapStepsUptoRow, standIns := [], harness := (true, "5ea202ba02dfce5e44937f6b4ebd531a6c9e4c2ac24ef8adaf3fdf72529ea03e"), looks := false }, kinds := [], alts := [], laidByText := true, laidKinds := [.data, .data, .data], laidTests := true, laidLooks := .later }
def ReapStepsUptoCardSaid : Prop := Claim7.holds Tryd.pinned (.plain (OpenSpec.upto reapStepsSpec)) reapStepsUptoCard

/-- THE SECOND FORM's CARD OF 'cleanselaw18.ReapRoots'. -/
def reapRootsUptoCard : Claim7 := { stood := { row := reapRootsUptoRow, standIns := [], harness := (true, "5ea202ba02dfce5e44937f6b4ebd531a6c9e4c2ac24ef8adaf3fdf72529ea03e"), looks := false }, kinds := [], alts := [], laidByText := true, laidKinds := [.data, .data, .data], laidTests := true, laidLooks := .later }
def ReapRootsUptoCardSaid : Prop := Claim7.holds Tryd.pinned (.plain (OpenSpec.upto reapRootsSpec)) reapRootsUptoCard
end Rows
end Go.Proofs.YtnnifeeieoghfaaDoor
