/-
  DERIVED. GIVEN WITH THE SEED: THE CARDS: each row of YtganngkllfpgiaaGreatDoorRows.lean that lists a variable, with what it lists TIED to the program's text (the seventh form; the later family's looks); each row that meets fmt, with fmt's text TOLD by the authors' own Lean function (tested against real Go, not proved from fmt's source: count such statements apart). THE CARD IS WHAT COUNTS. Prove the row's statement (the work); the ties are given (YtganngkllfpgiaaGreatDoorTie.lean); close each card by the builder's one call (the guide's Derived/Test/ToyasCard.lean, 'card_holds'). Laid BY PROGRAM, IN A SANDBOX (cutbox-door.mjs). By AI agents, Wed Nov 11 2026. No macro, syntax, notation, axiom, sorry.
-/
import Derived.Test.YtganngkllfpgiaaGreatDoorRows
import GoSem.ClaimSeven
namespace Go.Proofs.YtganngkllfpgiaaGreatDoor
namespace Rows

/-- THE TIED CARD OF 'cleanselaw20.MatchMatchesReference'. -/
def matchMatchesReferenceCard : Claim7 := { stood := { row := matchMatchesReferenceRow, standIns := [], harness := (true, "11eb1d4c0bced00a3e624116f5e2f777300b684a4f80a4cab4dc54ff0c7fb1c4"), looks := false }, kinds := [], alts := [], laidByText := true, laidKinds := [.data, .data], laidTests := true, laidLooks := .later }
def MatchMatchesReferenceCardSaid : Prop := Claim7.holds Tryz.pinned (.plain (OpenSpec.ofChange matchMatchesReferenceSpec)) matchMatchesReferenceCard

/-- THE SECOND FORM's CARD OF 'cleanselaw20.MatchMatchesReference'. -/
def matchMatchesReferenceUptoCard : Claim7 := { stood := { row := matchMatchesReferenceUptoRow, standIns := [], harness := (true, "11eb1d4c0bced00a3e624116f5e2f777300b684a4f80a4cab4dc54ff0c7fb1c4"), looks := false }, kinds := [], alts := [], laidByText := true, laidKinds := [.data, .data], laidTests := true, laidLooks := .later }
def MatchMatchesReferenceUptoCardSaid : Prop := Claim7.holds Tryz.pinned (.plain (OpenSpec.upto matchMatchesReferenceSpec)) matchMatchesReferenceUptoCard
end Rows
end Go.Proofs.YtganngkllfpgiaaGreatDoor
