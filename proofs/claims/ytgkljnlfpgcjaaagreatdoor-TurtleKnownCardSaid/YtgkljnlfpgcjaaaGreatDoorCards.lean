/-
  DERIVED. GIVEN WITH THE SEED: THE CARDS: each row of YtgkljnlfpgcjaaaGreatDoorRows.lean that lists a variable, with what it lists TIED to the program's text (the seventh form; the later family's looks); each row that meets fmt, with fmt's text TOLD by the authors' own Lean function (tested against real Go, not proved from fmt's source: count such statements apart). THE CARD IS WHAT COUNTS. Prove the row's statement (the work); the ties are given (YtgkljnlfpgcjaaaGreatDoorTie.lean); close each card by the builder's one call (the guide's Derived/Test/ToyasCard.lean, 'card_holds'). Laid BY PROGRAM, IN A SANDBOX (cutbox-door.mjs). By AI agents, Wed Nov 11 2026. No macro, syntax, notation, axiom, sorry.
-/
import Derived.Test.YtgkljnlfpgcjaaaGreatDoorRows
import GoSem.ClaimSeven
namespace Go.Proofs.YtgkljnlfpgcjaaaGreatDoor
namespace Rows

/-- THE TIED CARD OF 'triadlaw12.TurtleKnown'. -/
def turtleKnownCard : Claim7 := { stood := { row := turtleKnownRow, standIns := [], harness := (true, "46bd06f576f661aebf6048772f8addc6aba452f4a71bab95078b53e4f38ea8e2"), looks := false }, kinds := [], alts := [], laidByText := true, laidKinds := [.data, .data, .data, .data, .pinned], laidTests := true, laidLooks := .later }
def TurtleKnownCardSaid : Prop := Claim7.holds Tryz.pinned (.plain (OpenSpec.ofChange turtleKnownSpec)) turtleKnownCard

/-- THE TIED CARD OF 'triadlaw12.TurtleLists'. -/
def turtleListsCard : Claim7 := { stood := { row := turtleListsRow, standIns := [], harness := (true, "46bd06f576f661aebf6048772f8addc6aba452f4a71bab95078b53e4f38ea8e2"), looks := false }, kinds := [], alts := [], laidByText := true, laidKinds := [.data, .data, .data, .data, .pinned], laidTests := true, laidLooks := .later }
def TurtleListsCardSaid : Prop := Claim7.holds Tryz.pinned (.plain (OpenSpec.ofChange turtleListsSpec)) turtleListsCard

/-- THE TIED CARD OF 'triadlaw12.TurtleLabels'. -/
def turtleLabelsCard : Claim7 := { stood := { row := turtleLabelsRow, standIns := [], harness := (true, "46bd06f576f661aebf6048772f8addc6aba452f4a71bab95078b53e4f38ea8e2"), looks := false }, kinds := [], alts := [], laidByText := true, laidKinds := [.data, .data, .data, .data, .pinned], laidTests := true, laidLooks := .later }
def TurtleLabelsCardSaid : Prop := Claim7.holds Tryz.pinned (.plain (OpenSpec.ofChange turtleLabelsSpec)) turtleLabelsCard

/-- THE TIED CARD OF 'triadlaw12.TurtleDeep'. -/
def turtleDeepCard : Claim7 := { stood := { row := turtleDeepRow, standIns := [], harness := (true, "46bd06f576f661aebf6048772f8addc6aba452f4a71bab95078b53e4f38ea8e2"), looks := false }, kinds := [], alts := [], laidByText := true, laidKinds := [.data, .data, .data, .data, .pinned], laidTests := true, laidLooks := .later }
def TurtleDeepCardSaid : Prop := Claim7.holds Tryz.pinned (.plain (OpenSpec.ofChange turtleDeepSpec)) turtleDeepCard

/-- THE SECOND FORM's CARD OF 'triadlaw12.TurtleKnown'. -/
def turtleKnownUptoCard : Claim7 := { stood := { row := turtleKnownUptoRow, standIns := [], harness := (true, "46bd06f576f661aebf6048772f8addc6aba452f4a71bab95078b53e4f38ea8e2"), looks := false }, kinds := [], alts := [], laidByText := true, laidKinds := [.data, .data, .data, .data, .pinned], laidTests := true, laidLooks := .later }
def TurtleKnownUptoCardSaid : Prop := Claim7.holds Tryz.pinned (.plain (OpenSpec.upto turtleKnownSpec)) turtleKnownUptoCard

/-- THE SECOND FORM's CARD OF 'triadlaw12.TurtleLists'. -/
def turtleListsUptoCard : Claim7 := { stood := { row := turtleListsUptoRow, standIns := [], harness := (true, "46bd06f576f661aebf6048772f8addc6aba452f4a71bab95078b53e4f38ea8e2"), looks := false }, kinds := [], alts := [], laidByText := true, laidKinds := [.data, .data, .data, .data, .pinned], laidTests := true, laidLooks := .later }
def TurtleListsUptoCardSaid : Prop := Claim7.holds Tryz.pinned (.plain (OpenSpec.upto turtleListsSpec)) turtleListsUptoCard

/-- THE SECOND FORM's CARD OF 'triadlaw12.TurtleLabels'. -/
def turtleLabelsUptoCard : Claim7 := { stood := { row := turtleLabelsUptoRow, standIns := [], harness := (true, "46bd06f576f661aebf6048772f8addc6aba452f4a71bab95078b53e4f38ea8e2"), looks := false }, kinds := [], alts := [], laidByText := true, laidKinds := [.data, .data, .data, .data, .pinned], laidTests := true, laidLooks := .later }
def TurtleLabelsUptoCardSaid : Prop := Claim7.holds Tryz.pinned (.plain (OpenSpec.upto turtleLabelsSpec)) turtleLabelsUptoCard

/-- THE SECOND FORM's CARD OF 'triadlaw12.TurtleDeep'. -/
def turtleDeepUptoCard : Claim7 := { stood := { row := turtleDeepUptoRow, standIns := [], harness := (true, "46bd06f576f661aebf6048772f8addc6aba452f4a71bab95078b53e4f38ea8e2"), looks := false }, kinds := [], alts := [], laidByText := true, laidKinds := [.data, .data, .data, .data, .pinned], laidTests := true, laidLooks := .later }
def TurtleDeepUptoCardSaid : Prop := Claim7.holds Tryz.pinned (.plain (OpenSpec.upto turtleDeepSpec)) turtleDeepUptoCard
end Rows
end Go.Proofs.YtgkljnlfpgcjaaaGreatDoor
