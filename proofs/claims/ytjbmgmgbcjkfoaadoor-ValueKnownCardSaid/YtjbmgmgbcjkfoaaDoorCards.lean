/-
  DERIVED. GIVEN WITH THE SEED: THE CARDS: each row of YtjbmgmgbcjkfoaaDoorRows.lean that lists a variable, with what it lists TIED to the program's text (the seventh form; the later family's looks); each row that meets fmt, with fmt's text TOLD by the authors' own Lean function (tested against real Go, not proved from fmt's source: count such statements apart). THE CARD IS WHAT COUNTS. Prove the row's statement (the work); the ties are given (YtjbmgmgbcjkfoaaDoorTie.lean); close each card by the builder's one call (the guide's Derived/Test/ToyasCard.lean, 'card_holds'). Laid BY PROGRAM, IN A SANDBOX (cutbox-door.mjs). By AI agents, Wed Nov 11 2026. No macro, syntax, notation, axiom, sorry.
-/
import Derived.Test.YtjbmgmgbcjkfoaaDoorRows
import GoSem.ClaimSeven
namespace Go.Proofs.YtjbmgmgbcjkfoaaDoor
namespace Rows

/-- THE TIED CARD OF 'triadlaw15.ValueTwo'. -/
def valueTwoCard : Claim7 := { stood := { row := valueTwoRow, standIns := [], harness := (true, "0cc28ae8ca8db464ce7eac448b4bad5630fae9ac4c14ee31a6dcf5f14c6f1685"), looks := false }, kinds := [], alts := [], laidByText := true, laidKinds := [.data, .pinned], laidTests := true, laidLooks := .later }
def ValueTwoCardSaid : Prop := Claim7.holds Tryd.pinned (.plain (OpenSpec.ofChange valueTwoSpec)) valueTwoCard

/-- THE TIED CARD OF 'triadlaw15.ValueLogic'. -/
def valueLogicCard : Claim7 := { stood := { row := valueLogicRow, standIns := [], harness := (true, "0cc28ae8ca8db464ce7eac448b4bad5630fae9ac4c14ee31a6dcf5f14c6f1685"), looks := false }, kinds := [], alts := [], laidByText := true, laidKinds := [.data, .data, .data, .data, .pinned], laidTests := true, laidLooks := .later }
def ValueLogicCardSaid : Prop := Claim7.holds Tryd.pinned (.plain (OpenSpec.ofChange valueLogicSpec)) valueLogicCard

/-- THE TIED CARD OF 'triadlaw15.ValueKnown'. -/
def valueKnownCard : Claim7 := { stood := { row := valueKnownRow, standIns := [], harness := (true, "0cc28ae8ca8db464ce7eac448b4bad5630fae9ac4c14ee31a6dcf5f14c6f1685"), looks := false }, kinds := [], alts := [], laidByText := true, laidKinds := [.data, .data, .data, .data, .pinned], laidTests := true, laidLooks := .later }
def ValueKnownCardSaid : Prop := Claim7.holds Tryd.pinned (.plain (OpenSpec.ofChange valueKnownSpec)) valueKnownCard

/-- THE SECOND FORM's CARD OF 'triadlaw15.ValueTwo'. -/
def valueTwoUptoCard : Claim7 := { stood := { row := valueTwoUptoRow, standIns := [], harness := (true, "0cc28ae8ca8db464ce7eac448b4bad5630fae9ac4c14ee31a6dcf5f14c6f1685"), looks := false }, kinds := [], alts := [], laidByText := true, laidKinds := [.data, .pinned], laidTests := true, laidLooks := .later }
def ValueTwoUptoCardSaid : Prop := Claim7.holds Tryd.pinned (.plain (OpenSpec.upto valueTwoSpec)) valueTwoUptoCard

/-- THE SECOND FORM's CARD OF 'triadlaw15.ValueLogic'. -/
def valueLogicUptoCard : Claim7 := { stood := { row := valueLogicUptoRow, standIns := [], harness := (true, "0cc28ae8ca8db464ce7eac448b4bad5630fae9ac4c14ee31a6dcf5f14c6f1685"), looks := false }, kinds := [], alts := [], laidByText := true, laidKinds := [.data, .data, .data, .data, .pinned], laidTests := true, laidLooks := .later }
def ValueLogicUptoCardSaid : Prop := Claim7.holds Tryd.pinned (.plain (OpenSpec.upto valueLogicSpec)) valueLogicUptoCard

/-- THE SECOND FORM's CARD OF 'triadlaw15.ValueKnown'. -/
def valueKnownUptoCard : Claim7 := { stood := { row := valueKnownUptoRow, standIns := [], harness := (true, "0cc28ae8ca8db464ce7eac448b4bad5630fae9ac4c14ee31a6dcf5f14c6f1685"), looks := false }, kinds := [], alts := [], laidByText := true, laidKinds := [.data, .data, .data, .data, .pinned], laidTests := true, laidLooks := .later }
def ValueKnownUptoCardSaid : Prop := Claim7.holds Tryd.pinned (.plain (OpenSpec.upto valueKnownSpec)) valueKnownUptoCard
end Rows
end Go.Proofs.YtjbmgmgbcjkfoaaDoor
