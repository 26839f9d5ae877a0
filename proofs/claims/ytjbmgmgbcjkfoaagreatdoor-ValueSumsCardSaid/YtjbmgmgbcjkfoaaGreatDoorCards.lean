/-
  DERIVED. GIVEN WITH THE SEED: THE CARDS: each row of YtjbmgmgbcjkfoaaGreatDoorRows.lean that lists a variable, with what it lists TIED to the program's text (the seventh form; the later family's looks); each row that meets fmt, with fmt's text TOLD by the authors' own Lean function (tested against real Go, not proved from fmt's source: count such statements apart). THE CARD IS WHAT COUNTS. Prove the row's statement (the work); the ties are given (YtjbmgmgbcjkfoaaGreatDoorTie.lean); close each card by the builder's one call (the guide's Derived/Test/ToyasCard.lean, 'card_holds'). Laid BY PROGRAM, IN A SANDBOX (cutbox-door.mjs). By AI agents, Wed Nov 11 2026. No macro, syntax, notation, axiom, sorry.
-/
import Derived.Test.YtjbmgmgbcjkfoaaGreatDoorRows
import GoSem.ClaimSeven
namespace Go.Proofs.YtjbmgmgbcjkfoaaGreatDoor
namespace Rows

/-- THE TIED CARD OF 'triadlaw15.ValueEvals'. -/
def valueEvalsCard : Claim7 := { stood := { row := valueEvalsRow, standIns := [], harness := (true, "a038beec734311b60c32e82bbb9948876e3fda60c2b750a8a16722ef62eced28"), looks := false }, kinds := [], alts := [], laidByText := true, laidKinds := [.data, .data, .data, .data, .pinned], laidTests := true, laidLooks := .later }
def ValueEvalsCardSaid : Prop := Claim7.holds Tryz.pinned (.plain (OpenSpec.ofChange valueEvalsSpec)) valueEvalsCard

/-- THE TIED CARD OF 'triadlaw15.ValueSums'. -/
def valueSumsCard : Claim7 := { stood := { row := valueSumsRow, standIns := [], harness := (true, "a038beec734311b60c32e82bbb9948876e3fda60c2b750a8a16722ef62eced28"), looks := false }, kinds := [], alts := [], laidByText := true, laidKinds := [.data, .data, .data, .data, .pinned], laidTests := true, laidLooks := .later }
def ValueSumsCardSaid : Prop := Claim7.holds Tryz.pinned (.plain (OpenSpec.ofChange valueSumsSpec)) valueSumsCard

/-- THE TIED CARD OF 'triadlaw15.ValueChoice'. -/
def valueChoiceCard : Claim7 := { stood := { row := valueChoiceRow, standIns := [], harness := (true, "a038beec734311b60c32e82bbb9948876e3fda60c2b750a8a16722ef62eced28"), looks := false }, kinds := [], alts := [], laidByText := true, laidKinds := [.data, .data, .data, .data, .pinned], laidTests := true, laidLooks := .later }
def ValueChoiceCardSaid : Prop := Claim7.holds Tryz.pinned (.plain (OpenSpec.ofChange valueChoiceSpec)) valueChoiceCard

/-- THE SECOND FORM's CARD OF 'triadlaw15.ValueEvals'. -/
def valueEvalsUptoCard : Claim7 := { stood := { row := valueEvalsUptoRow, standIns := [], harness := (true, "a038beec734311b60c32e82bbb9948876e3fda60c2b750a8a16722ef62eced28"), looks := false }, kinds := [], alts := [], laidByText := true, laidKinds := [.data, .data, .data, .data, .pinned], laidTests := true, laidLooks := .later }
def ValueEvalsUptoCardSaid : Prop := Claim7.holds Tryz.pinned (.plain (OpenSpec.upto valueEvalsSpec)) valueEvalsUptoCard

/-- THE SECOND FORM's CARD OF 'triadlaw15.ValueSums'. -/
def valueSumsUptoCard : Claim7 := { stood := { row := valueSumsUptoRow, standIns := [], harness := (true, "a038beec734311b60c32e82bbb9948876e3fda60c2b750a8a16722ef62eced28"), looks := false }, kinds := [], alts := [], laidByText := true, laidKinds := [.data, .data, .data, .data, .pinned], laidTests := true, laidLooks := .later }
def ValueSumsUptoCardSaid : Prop := Claim7.holds Tryz.pinned (.plain (OpenSpec.upto valueSumsSpec)) valueSumsUptoCard

/-- THE SECOND FORM's CARD OF 'triadlaw15.ValueChoice'. -/
def valueChoiceUptoCard : Claim7 := { stood := { row := valueChoiceUptoRow, standIns := [], harness := (true, "a038beec734311b60c32e82bbb9948876e3fda60c2b750a8a16722ef62eced28"), looks := false }, kinds := [], alts := [], laidByText := true, laidKinds := [.data, .data, .data, .data, .pinned], laidTests := true, laidLooks := .later }
def ValueChoiceUptoCardSaid : Prop := Claim7.holds Tryz.pinned (.plain (OpenSpec.upto valueChoiceSpec)) valueChoiceUptoCard
end Rows
end Go.Proofs.YtjbmgmgbcjkfoaaGreatDoor
