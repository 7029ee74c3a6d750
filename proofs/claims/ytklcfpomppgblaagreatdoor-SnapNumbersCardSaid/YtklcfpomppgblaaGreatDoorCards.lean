/-
  DERIVED. GIVEN WITH THE SEED: THE CARDS: each row of YtklcfpomppgblaaGreatDoorRows.lean that lists a variable, with what it lists TIED to the program's text (the seventh form; the later family's looks); each row that meets fmt, with fmt's text TOLD by the authors' own Lean function (tested against real Go, not proved from fmt's source: count such statements apart). THE CARD IS WHAT COUNTS. Prove the row's statement (the work); the ties are given (YtklcfpomppgblaaGreatDoorTie.lean); close each card by the builder's one call (the guide's Derived/Test/ToyasCard.lean, 'card_holds'). Laid BY PROGRAM, IN A SANDBOX (cutbox-door.mjs). By AI agents, Wed Nov 11 2026. No macro, syntax, notation, axiom, sorry.
-/
import Derived.Test.YtklcfpomppgblaaGreatDoorRows
import GoSem.ClaimSeven
namespace Go.Proofs.YtklcfpomppgblaaGreatDoor
namespace Rows

/-- THE TIED CARD OF 'cleanselaw48.SnapForever'. -/
def snapForeverCard : Claim7 := { stood := { row := snapForeverRow, standIns := [], harness := (true, "7ad74870443be3a770f35e819a7a542b568f94d9dcca17c4759f98a2dce9d134"), looks := true }, kinds := [], alts := [], laidByText := true, laidKinds := [.data, .data, .data, .widerDeep, .widerDeep], laidTests := true, laidLooks := .later }
def SnapForeverCardSaid : Prop := Claim7.holds Tryz.pinned (.plain (OpenSpec.ofChange snapForeverSpec)) snapForeverCard

/-- THE TIED CARD OF 'cleanselaw48.SnapCollects'. -/
def snapCollectsCard : Claim7 := { stood := { row := snapCollectsRow, standIns := [], harness := (true, "7ad74870443be3a770f35e819a7a542b568f94d9dcca17c4759f98a2dce9d134"), looks := true }, kinds := [], alts := [], laidByText := true, laidKinds := [.data, .data, .data, .widerDeep, .widerDeep], laidTests := true, laidLooks := .later }
def SnapCollectsCardSaid : Prop := Claim7.holds Tryz.pinned (.plain (OpenSpec.ofChange snapCollectsSpec)) snapCollectsCard

/-- THE TIED CARD OF 'cleanselaw48.SnapNumbers'. -/
def snapNumbersCard : Claim7 := { stood := { row := snapNumbersRow, standIns := [], harness := (true, "7ad74870443be3a770f35e819a7a542b568f94d9dcca17c4759f98a2dce9d134"), looks := true }, kinds := [], alts := [], laidByText := true, laidKinds := [.data, .data, .data, .widerDeep, .widerDeep], laidTests := true, laidLooks := .later }
def SnapNumbersCardSaid : Prop := Claim7.holds Tryz.pinned (.plain (OpenSpec.ofChange snapNumbersSpec)) snapNumbersCard

/-- THE TIED CARD OF 'cleanselaw49.SessionCancelled'. -/
def sessionCancelledCard : Claim7 := { stood := { row := sessionCancelledRow, standIns := [], harness := (true, "7ad74870443be3a770f35e819a7a542b568f94d9dcca17c4759f98a2dce9d134"), looks := true }, kinds := [], alts := [], laidByText := true, laidKinds := [.data, .data, .data, .widerDeep, .widerDeep], laidTests := true, laidLooks := .later }
def SessionCancelledCardSaid : Prop := Claim7.holds Tryz.pinned (.plain (OpenSpec.ofChange sessionCancelledSpec)) sessionCancelledCard

/-- THE TIED CARD OF 'cleanselaw49.SessionConflicts'. -/
def sessionConflictsCard : Claim7 := { stood := { row := sessionConflictsRow, standIns := [], harness := (true, "7ad74870443be3a770f35e819a7a542b568f94d9dcca17c4759f98a2dce9d134"), looks := true }, kinds := [], alts := [], laidByText := true, laidKinds := [.data, .data, .data, .widerDeep, .widerDeep], laidTests := true, laidLooks := .later }
def SessionConflictsCardSaid : Prop := Claim7.holds Tryz.pinned (.plain (OpenSpec.ofChange sessionConflictsSpec)) sessionConflictsCard

/-- THE TIED CARD OF 'cleanselaw49.SessionSerial'. -/
def sessionSerialCard : Claim7 := { stood := { row := sessionSerialRow, standIns := [], harness := (true, "7ad74870443be3a770f35e819a7a542b568f94d9dcca17c4759f98a2dce9d134"), looks := true }, kinds := [], alts := [], laidByText := true, laidKinds := [.data, .data, .data, .widerDeep, .widerDeep], laidTests := true, laidLooks := .later }
def SessionSerialCardSaid : Prop := Claim7.holds Tryz.pinned (.plain (OpenSpec.ofChange sessionSerialSpec)) sessionSerialCard

/-- THE TIED CARD OF 'cleanselaw49.SessionClosed'. -/
def sessionClosedCard : Claim7 := { stood := { row := sessionClosedRow, standIns := [], harness := (true, "7ad74870443be3a770f35e819a7a542b568f94d9dcca17c4759f98a2dce9d134"), looks := true }, kinds := [], alts := [], laidByText := true, laidKinds := [.data, .data, .data, .widerDeep, .widerDeep], laidTests := true, laidLooks := .later }
def SessionClosedCardSaid : Prop := Claim7.holds Tryz.pinned (.plain (OpenSpec.ofChange sessionClosedSpec)) sessionClosedCard

/-- THE TIED CARD OF 'cleanselaw49.SessionInForce'. -/
def sessionInForceCard : Claim7 := { stood := { row := sessionInForceRow, standIns := [], harness := (true, "7ad74870443be3a770f35e819a7a542b568f94d9dcca17c4759f98a2dce9d134"), looks := true }, kinds := [], alts := [], laidByText := true, laidKinds := [.data, .data, .data, .widerDeep, .widerDeep], laidTests := true, laidLooks := .later }
def SessionInForceCardSaid : Prop := Claim7.holds Tryz.pinned (.plain (OpenSpec.ofChange sessionInForceSpec)) sessionInForceCard

/-- THE SECOND FORM's CARD OF 'cleanselaw48.SnapNumbers'. -/
def snapNumbersUptoCard : Claim7 := { stood := { row := snapNumbersUptoRow, standIns := [], harness := (true, "7ad74870443be3a770f35e819a7a542b568f94d9dcca17c4759f98a2dce9d134"), looks := true }, kinds := [], alts := [], laidByText := true, laidKinds := [.data, .data, .data, .widerDeep, .widerDeep], laidTests := true, laidLooks := .later }
def SnapNumbersUptoCardSaid : Prop := Claim7.holds Tryz.pinned (.plain (OpenSpec.upto snapNumbersSpec)) snapNumbersUptoCard

/-- THE SECOND FORM's CARD OF 'cleanselaw49.SessionClosed'. -/
def sessionClosedUptoCard : Claim7 := { stood := { row := sessionClosedUptoRow, standIns := [], harness := (true, "7ad74870443be3a770f35e819a7a542b568f94d9dcca17c4759f98a2dce9d134"), looks := true }, kinds := [], alts := [], laidByText := true, laidKinds := [.data, .data, .data, .widerDeep, .widerDeep], laidTests := true, laidLooks := .later }
def SessionClosedUptoCardSaid : Prop := Claim7.holds Tryz.pinned (.plain (OpenSpec.upto sessionClosedSpec)) sessionClosedUptoCard
end Rows
end Go.Proofs.YtklcfpomppgblaaGreatDoor
