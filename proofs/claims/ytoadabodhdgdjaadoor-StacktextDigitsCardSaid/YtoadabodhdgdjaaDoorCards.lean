/-
  DERIVED. GIVEN WITH THE SEED: THE CARDS: each row of YtoadabodhdgdjaaDoorRows.lean that lists a variable, with what it lists TIED to the program's text (the seventh form; the later family's looks); each row that meets fmt, with fmt's text TOLD by the authors' own Lean function (tested against real Go, not proved from fmt's source: count such statements apart). THE CARD IS WHAT COUNTS. Prove the row's statement (the work); the ties are given (YtoadabodhdgdjaaDoorTie.lean); close each card by the builder's one call (the guide's Derived/Test/ToyasCard.lean, 'card_holds'). Laid BY PROGRAM, IN A SANDBOX (cutbox-door.mjs). By AI agents, Wed Nov 11 2026. No macro, syntax, notation, axiom, sorry.
-/
import Derived.Test.YtoadabodhdgdjaaDoorRows
import GoSem.ClaimSeven
namespace Go.Proofs.YtoadabodhdgdjaaDoor
namespace Rows

/-- THE TIED CARD OF 'barscanlaw29.StacktextNumerics'. -/
def stacktextNumericsCard : Claim7 := { stood := { row := stacktextNumericsRow, standIns := [], harness := (true, "b8f8e29e5406e4d5994d459d70c330fbd141b7abcabdba5276d6a556ce31521b"), looks := true }, kinds := [], alts := [], laidByText := true, laidKinds := [.data, .pinned], laidTests := true, laidLooks := .later }
def StacktextNumericsCardSaid : Prop := Claim7.holds Tryd.pinned (.plain (OpenSpec.ofChange stacktextNumericsSpec)) stacktextNumericsCard

/-- THE TIED CARD OF 'barscanlaw29.StacktextLimits'. -/
def stacktextLimitsCard : Claim7 := { stood := { row := stacktextLimitsRow, standIns := [], harness := (true, "b8f8e29e5406e4d5994d459d70c330fbd141b7abcabdba5276d6a556ce31521b"), looks := true }, kinds := [], alts := [], laidByText := true, laidKinds := [.data, .pinned], laidTests := true, laidLooks := .later }
def StacktextLimitsCardSaid : Prop := Claim7.holds Tryd.pinned (.plain (OpenSpec.ofChange stacktextLimitsSpec)) stacktextLimitsCard

/-- THE TIED CARD OF 'barscanlaw29.StacktextRoundTrip'. -/
def stacktextRoundTripCard : Claim7 := { stood := { row := stacktextRoundTripRow, standIns := [], harness := (true, "b8f8e29e5406e4d5994d459d70c330fbd141b7abcabdba5276d6a556ce31521b"), looks := true }, kinds := [], alts := [], laidByText := true, laidKinds := [.data, .pinned], laidTests := true, laidLooks := .later }
def StacktextRoundTripCardSaid : Prop := Claim7.holds Tryd.pinned (.plain (OpenSpec.ofChange stacktextRoundTripSpec)) stacktextRoundTripCard

/-- THE TIED CARD OF 'barscanlaw29.StacktextDigits'. -/
def stacktextDigitsCard : Claim7 := { stood := { row := stacktextDigitsRow, standIns := [], harness := (true, "b8f8e29e5406e4d5994d459d70c330fbd141b7abcabdba5276d6a556ce31521b"), looks := true }, kinds := [], alts := [], laidByText := true, laidKinds := [.data, .pinned], laidTests := true, laidLooks := .later }
def StacktextDigitsCardSaid : Prop := Claim7.holds Tryd.pinned (.plain (OpenSpec.ofChange stacktextDigitsSpec)) stacktextDigitsCard

/-- THE TIED CARD OF 'barscanlaw29.StacktextMinimal'. -/
def stacktextMinimalCard : Claim7 := { stood := { row := stacktextMinimalRow, standIns := [], harness := (true, "b8f8e29e5406e4d5994d459d70c330fbd141b7abcabdba5276d6a556ce31521b"), looks := true }, kinds := [], alts := [], laidByText := true, laidKinds := [.data, .pinned], laidTests := true, laidLooks := .later }
def StacktextMinimalCardSaid : Prop := Claim7.holds Tryd.pinned (.plain (OpenSpec.ofChange stacktextMinimalSpec)) stacktextMinimalCard

/-- THE TIED CARD OF 'barscanlaw29.StacktextJoins'. -/
def stacktextJoinsCard : Claim7 := { stood := { row := stacktextJoinsRow, standIns := [], harness := (true, "b8f8e29e5406e4d5994d459d70c330fbd141b7abcabdba5276d6a556ce31521b"), looks := true }, kinds := [], alts := [], laidByText := true, laidKinds := [.data, .pinned], laidTests := true, laidLooks := .later }
def StacktextJoinsCardSaid : Prop := Claim7.holds Tryd.pinned (.plain (OpenSpec.ofChange stacktextJoinsSpec)) stacktextJoinsCard

/-- THE TIED CARD OF 'barscanlaw29.StacktextBounds'. -/
def stacktextBoundsCard : Claim7 := { stood := { row := stacktextBoundsRow, standIns := [], harness := (true, "b8f8e29e5406e4d5994d459d70c330fbd141b7abcabdba5276d6a556ce31521b"), looks := true }, kinds := [], alts := [], laidByText := true, laidKinds := [.data, .pinned], laidTests := true, laidLooks := .later }
def StacktextBoundsCardSaid : Prop := Claim7.holds Tryd.pinned (.plain (OpenSpec.ofChange stacktextBoundsSpec)) stacktextBoundsCard

/-- THE SECOND FORM's CARD OF 'barscanlaw29.StacktextNumerics'. -/
def stacktextNumericsUptoCard : Claim7 := { stood := { row := stacktextNumericsUptoRow, standIns := [], harness := (true, "b8f8e29e5406e4d5994d459d70c330fbd141b7abcabdba5276d6a556ce31521b"), looks := true }, kinds := [], alts := [], laidByText := true, laidKinds := [.data, .pinned], laidTests := true, laidLooks := .later }
def StacktextNumericsUptoCardSaid : Prop := Claim7.holds Tryd.pinned (.plain (OpenSpec.upto stacktextNumericsSpec)) stacktextNumericsUptoCard

/-- THE SECOND FORM's CARD OF 'barscanlaw29.StacktextLimits'. -/
def stacktextLimitsUptoCard : Claim7 := { stood := { row := stacktextLimitsUptoRow, standIns := [], harness := (true, "b8f8e29e5406e4d5994d459d70c330fbd141b7abcabdba5276d6a556ce31521b"), looks := true }, kinds := [], alts := [], laidByText := true, laidKinds := [.data, .pinned], laidTests := true, laidLooks := .later }
def StacktextLimitsUptoCardSaid : Prop := Claim7.holds Tryd.pinned (.plain (OpenSpec.upto stacktextLimitsSpec)) stacktextLimitsUptoCard

/-- THE SECOND FORM's CARD OF 'barscanlaw29.StacktextRoundTrip'. -/
def stacktextRoundTripUptoCard : Claim7 := { stood := { row := stacktextRoundTripUptoRow, standIns := [], harness := (true, "b8f8e29e5406e4d5994d459d70c330fbd141b7abcabdba5276d6a556ce31521b"), looks := true }, kinds := [], alts := [], laidByText := true, laidKinds := [.data, .pinned], laidTests := true, laidLooks := .later }
def StacktextRoundTripUptoCardSaid : Prop := Claim7.holds Tryd.pinned (.plain (OpenSpec.upto stacktextRoundTripSpec)) stacktextRoundTripUptoCard

/-- THE SECOND FORM's CARD OF 'barscanlaw29.StacktextDigits'. -/
def stacktextDigitsUptoCard : Claim7 := { stood := { row := stacktextDigitsUptoRow, standIns := [], harness := (true, "b8f8e29e5406e4d5994d459d70c330fbd141b7abcabdba5276d6a556ce31521b"), looks := true }, kinds := [], alts := [], laidByText := true, laidKinds := [.data, .pinned], laidTests := true, laidLooks := .later }
def StacktextDigitsUptoCardSaid : Prop := Claim7.holds Tryd.pinned (.plain (OpenSpec.upto stacktextDigitsSpec)) stacktextDigitsUptoCard

/-- THE SECOND FORM's CARD OF 'barscanlaw29.StacktextMinimal'. -/
def stacktextMinimalUptoCard : Claim7 := { stood := { row := stacktextMinimalUptoRow, standIns := [], harness := (true, "b8f8e29e5406e4d5994d459d70c330fbd141b7abcabdba5276d6a556ce31521b"), looks := true }, kinds := [], alts := [], laidByText := true, laidKinds := [.data, .pinned], laidTests := true, laidLooks := .later }
def StacktextMinimalUptoCardSaid : Prop := Claim7.holds Tryd.pinned (.plain (OpenSpec.upto stacktextMinimalSpec)) stacktextMinimalUptoCard

/-- THE SECOND FORM's CARD OF 'barscanlaw29.StacktextJoins'. -/
def stacktextJoinsUptoCard : Claim7 := { stood := { row := stacktextJoinsUptoRow, standIns := [], harness := (true, "b8f8e29e5406e4d5994d459d70c330fbd141b7abcabdba5276d6a556ce31521b"), looks := true }, kinds := [], alts := [], laidByText := true, laidKinds := [.data, .pinned], laidTests := true, laidLooks := .later }
def StacktextJoinsUptoCardSaid : Prop := Claim7.holds Tryd.pinned (.plain (OpenSpec.upto stacktextJoinsSpec)) stacktextJoinsUptoCard

/-- THE SECOND FORM's CARD OF 'barscanlaw29.StacktextBounds'. -/
def stacktextBoundsUptoCard : Claim7 := { stood := { row := stacktextBoundsUptoRow, standIns := [], harness := (true, "b8f8e29e5406e4d5994d459d70c330fbd141b7abcabdba5276d6a556ce31521b"), looks := true }, kinds := [], alts := [], laidByText := true, laidKinds := [.data, .pinned], laidTests := true, laidLooks := .later }
def StacktextBoundsUptoCardSaid : Prop := Claim7.holds Tryd.pinned (.plain (OpenSpec.upto stacktextBoundsSpec)) stacktextBoundsUptoCard
end Rows
end Go.Proofs.YtoadabodhdgdjaaDoor
