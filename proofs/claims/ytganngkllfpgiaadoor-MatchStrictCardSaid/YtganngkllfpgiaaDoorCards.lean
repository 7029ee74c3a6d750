/-
  DERIVED. GIVEN WITH THE SEED: THE CARDS: each row of YtganngkllfpgiaaDoorRows.lean that lists a variable, with what it lists TIED to the program's text (the seventh form; the later family's looks); each row that meets fmt, with fmt's text TOLD by the authors' own Lean function (tested against real Go, not proved from fmt's source: count such statements apart). THE CARD IS WHAT COUNTS. Prove the row's statement (the work); the ties are given (YtganngkllfpgiaaDoorTie.lean); close each card by the builder's one call (the guide's Derived/Test/ToyasCard.lean, 'card_holds'). Laid BY PROGRAM, IN A SANDBOX (cutbox-door.mjs). By AI agents, Wed Nov 11 2026. No macro, syntax, notation, axiom, sorry.
-/
import Derived.Test.YtganngkllfpgiaaDoorRows
import GoSem.ClaimSeven
namespace Go.Proofs.YtganngkllfpgiaaDoor
namespace Rows

/-- THE TIED CARD OF 'cleanselaw20.MatchBothWays'. -/
def matchBothWaysCard : Claim7 := { stood := { row := matchBothWaysRow, standIns := [], harness := (true, "5b880e58380c83aa0fb27507e13562ab96bb10e60e18ff74d1d7b13c7332741c"), looks := false }, kinds := [], alts := [], laidByText := true, laidKinds := [.data, .data], laidTests := true, laidLooks := .later }
def MatchBothWaysCardSaid : Prop := Claim7.holds Tryd.pinned (.plain (OpenSpec.ofChange matchBothWaysSpec)) matchBothWaysCard

/-- THE TIED CARD OF 'cleanselaw20.MatchTerms'. -/
def matchTermsCard : Claim7 := { stood := { row := matchTermsRow, standIns := [], harness := (true, "5b880e58380c83aa0fb27507e13562ab96bb10e60e18ff74d1d7b13c7332741c"), looks := false }, kinds := [], alts := [], laidByText := true, laidKinds := [.data, .data], laidTests := true, laidLooks := .later }
def MatchTermsCardSaid : Prop := Claim7.holds Tryd.pinned (.plain (OpenSpec.ofChange matchTermsSpec)) matchTermsCard

/-- THE TIED CARD OF 'cleanselaw20.MatchLists'. -/
def matchListsCard : Claim7 := { stood := { row := matchListsRow, standIns := [], harness := (true, "5b880e58380c83aa0fb27507e13562ab96bb10e60e18ff74d1d7b13c7332741c"), looks := false }, kinds := [], alts := [], laidByText := true, laidKinds := [.data, .data], laidTests := true, laidLooks := .later }
def MatchListsCardSaid : Prop := Claim7.holds Tryd.pinned (.plain (OpenSpec.ofChange matchListsSpec)) matchListsCard

/-- THE TIED CARD OF 'cleanselaw20.MatchEqual'. -/
def matchEqualCard : Claim7 := { stood := { row := matchEqualRow, standIns := [], harness := (true, "5b880e58380c83aa0fb27507e13562ab96bb10e60e18ff74d1d7b13c7332741c"), looks := false }, kinds := [], alts := [], laidByText := true, laidKinds := [.data, .data], laidTests := true, laidLooks := .later }
def MatchEqualCardSaid : Prop := Claim7.holds Tryd.pinned (.plain (OpenSpec.ofChange matchEqualSpec)) matchEqualCard

/-- THE TIED CARD OF 'cleanselaw20.MatchEdges'. -/
def matchEdgesCard : Claim7 := { stood := { row := matchEdgesRow, standIns := [], harness := (true, "5b880e58380c83aa0fb27507e13562ab96bb10e60e18ff74d1d7b13c7332741c"), looks := false }, kinds := [], alts := [], laidByText := true, laidKinds := [.data, .data], laidTests := true, laidLooks := .later }
def MatchEdgesCardSaid : Prop := Claim7.holds Tryd.pinned (.plain (OpenSpec.ofChange matchEdgesSpec)) matchEdgesCard

/-- THE TIED CARD OF 'cleanselaw20.MatchStrict'. -/
def matchStrictCard : Claim7 := { stood := { row := matchStrictRow, standIns := [], harness := (true, "5b880e58380c83aa0fb27507e13562ab96bb10e60e18ff74d1d7b13c7332741c"), looks := false }, kinds := [], alts := [], laidByText := true, laidKinds := [.data, .data], laidTests := true, laidLooks := .later }
def MatchStrictCardSaid : Prop := Claim7.holds Tryd.pinned (.plain (OpenSpec.ofChange matchStrictSpec)) matchStrictCard

/-- THE SECOND FORM's CARD OF 'cleanselaw20.MatchBothWays'. -/
def matchBothWaysUptoCard : Claim7 := { stood := { row := matchBothWaysUptoRow, standIns := [], harness := (true, "5b880e58380c83aa0fb27507e13562ab96bb10e60e18ff74d1d7b13c7332741c"), looks := false }, kinds := [], alts := [], laidByText := true, laidKinds := [.data, .data], laidTests := true, laidLooks := .later }
def MatchBothWaysUptoCardSaid : Prop := Claim7.holds Tryd.pinned (.plain (OpenSpec.upto matchBothWaysSpec)) matchBothWaysUptoCard

/-- THE SECOND FORM's CARD OF 'cleanselaw20.MatchTerms'. -/
def matchTermsUptoCard : Claim7 := { stood := { row := matchTermsUptoRow, standIns := [], harness := (true, "5b880e58380c83aa0fb27507e13562ab96bb10e60e18ff74d1d7b13c7332741c"), looks := false }, kinds := [], alts := [], laidByText := true, laidKinds := [.data, .data], laidTests := true, laidLooks := .later }
def MatchTermsUptoCardSaid : Prop := Claim7.holds Tryd.pinned (.plain (OpenSpec.upto matchTermsSpec)) matchTermsUptoCard

/-- THE SECOND FORM's CARD OF 'cleanselaw20.MatchLists'. -/
def matchListsUptoCard : Claim7 := { stood := { row := matchListsUptoRow, standIns := [], harness := (true, "5b880e58380c83aa0fb27507e13562ab96bb10e60e18ff74d1d7b13c7332741c"), looks := false }, kinds := [], alts := [], laidByText := true, laidKinds := [.data, .data], laidTests := true, laidLooks := .later }
def MatchListsUptoCardSaid : Prop := Claim7.holds Tryd.pinned (.plain (OpenSpec.upto matchListsSpec)) matchListsUptoCard

/-- THE SECOND FORM's CARD OF 'cleanselaw20.MatchEqual'. -/
def matchEqualUptoCard : Claim7 := { stood := { row := matchEqualUptoRow, standIns := [], harness := (true, "5b880e58380c83aa0fb27507e13562ab96bb10e60e18ff74d1d7b13c7332741c"), looks := false }, kinds := [], alts := [], laidByText := true, laidKinds := [.data, .data], laidTests := true, laidLooks := .later }
def MatchEqualUptoCardSaid : Prop := Claim7.holds Tryd.pinned (.plain (OpenSpec.upto matchEqualSpec)) matchEqualUptoCard

/-- THE SECOND FORM's CARD OF 'cleanselaw20.MatchEdges'. -/
def matchEdgesUptoCard : Claim7 := { stood := { row := matchEdgesUptoRow, standIns := [], harness := (true, "5b880e58380c83aa0fb27507e13562ab96bb10e60e18ff74d1d7b13c7332741c"), looks := false }, kinds := [], alts := [], laidByText := true, laidKinds := [.data, .data], laidTests := true, laidLooks := .later }
def MatchEdgesUptoCardSaid : Prop := Claim7.holds Tryd.pinned (.plain (OpenSpec.upto matchEdgesSpec)) matchEdgesUptoCard

/-- THE SECOND FORM's CARD OF 'cleanselaw20.MatchStrict'. -/
def matchStrictUptoCard : Claim7 := { stood := { row := matchStrictUptoRow, standIns := [], harness := (true, "5b880e58380c83aa0fb27507e13562ab96bb10e60e18ff74d1d7b13c7332741c"), looks := false }, kinds := [], alts := [], laidByText := true, laidKinds := [.data, .data], laidTests := true, laidLooks := .later }
def MatchStrictUptoCardSaid : Prop := Claim7.holds Tryd.pinned (.plain (OpenSpec.upto matchStrictSpec)) matchStrictUptoCard
end Rows
end Go.Proofs.YtganngkllfpgiaaDoor
