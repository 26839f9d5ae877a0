/-
  DERIVED. GIVEN WITH THE SEED: THE CARDS: each row of YtpnjbagpplodjaaDoorRows.lean that lists a variable, with what it lists TIED to the program's text (the seventh form; the later family's looks); each row that meets fmt, with fmt's text TOLD by the authors' own Lean function (tested against real Go, not proved from fmt's source: count such statements apart). THE CARD IS WHAT COUNTS. Prove the row's statement (the work); the ties are given (YtpnjbagpplodjaaDoorTie.lean); close each card by the builder's one call (the guide's Derived/Test/ToyasCard.lean, 'card_holds'). Laid BY PROGRAM, IN A SANDBOX (cutbox-door.mjs). By AI agents, Wed Nov 11 2026. No macro, syntax, notation, axiom, sorry.
-/
import Derived.Test.YtpnjbagpplodjaaDoorRows
import GoSem.ClaimSeven
namespace Go.Proofs.YtpnjbagpplodjaaDoor
namespace Rows

/-- THE TIED CARD OF 'triadlaw13.DecReads'. -/
def decReadsCard : Claim7 := { stood := { row := decReadsRow, standIns := [], harness := (true, "2bf8501facfaf03854a4f07ca71da2acdc182553b4ab1e5061d6595639656f6e"), looks := false }, kinds := [], alts := [], laidByText := true, laidKinds := [.data, .pinned], laidTests := true, laidLooks := .later }
def DecReadsCardSaid : Prop := Claim7.holds Tryd.pinned (.plain (OpenSpec.ofChange decReadsSpec)) decReadsCard

/-- THE TIED CARD OF 'triadlaw13.DecOrder'. -/
def decOrderCard : Claim7 := { stood := { row := decOrderRow, standIns := [], harness := (true, "2bf8501facfaf03854a4f07ca71da2acdc182553b4ab1e5061d6595639656f6e"), looks := false }, kinds := [], alts := [], laidByText := true, laidKinds := [.data, .pinned], laidTests := true, laidLooks := .later }
def DecOrderCardSaid : Prop := Claim7.holds Tryd.pinned (.plain (OpenSpec.ofChange decOrderSpec)) decOrderCard

/-- THE TIED CARD OF 'triadlaw13.DecPrints'. -/
def decPrintsCard : Claim7 := { stood := { row := decPrintsRow, standIns := [], harness := (true, "2bf8501facfaf03854a4f07ca71da2acdc182553b4ab1e5061d6595639656f6e"), looks := false }, kinds := [], alts := [], laidByText := true, laidKinds := [.data, .pinned], laidTests := true, laidLooks := .later }
def DecPrintsCardSaid : Prop := Claim7.holds Tryd.pinned (.plain (OpenSpec.ofChange decPrintsSpec)) decPrintsCard

/-- THE TIED CARD OF 'triadlaw13.DecMuls'. -/
def decMulsCard : Claim7 := { stood := { row := decMulsRow, standIns := [], harness := (true, "2bf8501facfaf03854a4f07ca71da2acdc182553b4ab1e5061d6595639656f6e"), looks := false }, kinds := [], alts := [], laidByText := true, laidKinds := [.data, .pinned], laidTests := true, laidLooks := .later }
def DecMulsCardSaid : Prop := Claim7.holds Tryd.pinned (.plain (OpenSpec.ofChange decMulsSpec)) decMulsCard

/-- THE TIED CARD OF 'triadlaw13.DecAdds'. -/
def decAddsCard : Claim7 := { stood := { row := decAddsRow, standIns := [], harness := (true, "2bf8501facfaf03854a4f07ca71da2acdc182553b4ab1e5061d6595639656f6e"), looks := false }, kinds := [], alts := [], laidByText := true, laidKinds := [.data, .pinned], laidTests := true, laidLooks := .later }
def DecAddsCardSaid : Prop := Claim7.holds Tryd.pinned (.plain (OpenSpec.ofChange decAddsSpec)) decAddsCard

/-- THE TIED CARD OF 'triadlaw13.DecDivs'. -/
def decDivsCard : Claim7 := { stood := { row := decDivsRow, standIns := [], harness := (true, "2bf8501facfaf03854a4f07ca71da2acdc182553b4ab1e5061d6595639656f6e"), looks := false }, kinds := [], alts := [], laidByText := true, laidKinds := [.data, .pinned], laidTests := true, laidLooks := .later }
def DecDivsCardSaid : Prop := Claim7.holds Tryd.pinned (.plain (OpenSpec.ofChange decDivsSpec)) decDivsCard

/-- THE SECOND FORM's CARD OF 'triadlaw13.DecReads'. -/
def decReadsUptoCard : Claim7 := { stood := { row := decReadsUptoRow, standIns := [], harness := (true, "2bf8501facfaf03854a4f07ca71da2acdc182553b4ab1e5061d6595639656f6e"), looks := false }, kinds := [], alts := [], laidByText := true, laidKinds := [.data, .pinned], laidTests := true, laidLooks := .later }
def DecReadsUptoCardSaid : Prop := Claim7.holds Tryd.pinned (.plain (OpenSpec.upto decReadsSpec)) decReadsUptoCard

/-- THE SECOND FORM's CARD OF 'triadlaw13.DecOrder'. -/
def decOrderUptoCard : Claim7 := { stood := { row := decOrderUptoRow, standIns := [], harness := (true, "2bf8501facfaf03854a4f07ca71da2acdc182553b4ab1e5061d6595639656f6e"), looks := false }, kinds := [], alts := [], laidByText := true, laidKinds := [.data, .pinned], laidTests := true, laidLooks := .later }
def DecOrderUptoCardSaid : Prop := Claim7.holds Tryd.pinned (.plain (OpenSpec.upto decOrderSpec)) decOrderUptoCard

/-- THE SECOND FORM's CARD OF 'triadlaw13.DecPrints'. -/
def decPrintsUptoCard : Claim7 := { stood := { row := decPrintsUptoRow, standIns := [], harness := (true, "2bf8501facfaf03854a4f07ca71da2acdc182553b4ab1e5061d6595639656f6e"), looks := false }, kinds := [], alts := [], laidByText := true, laidKinds := [.data, .pinned], laidTests := true, laidLooks := .later }
def DecPrintsUptoCardSaid : Prop := Claim7.holds Tryd.pinned (.plain (OpenSpec.upto decPrintsSpec)) decPrintsUptoCard

/-- THE SECOND FORM's CARD OF 'triadlaw13.DecMuls'. -/
def decMulsUptoCard : Claim7 := { stood := { row := decMulsUptoRow, standIns := [], harness := (true, "2bf8501facfaf03854a4f07ca71da2acdc182553b4ab1e5061d6595639656f6e"), looks := false }, kinds := [], alts := [], laidByText := true, laidKinds := [.data, .pinned], laidTests := true, laidLooks := .later }
def DecMulsUptoCardSaid : Prop := Claim7.holds Tryd.pinned (.plain (OpenSpec.upto decMulsSpec)) decMulsUptoCard

/-- THE SECOND FORM's CARD OF 'triadlaw13.DecAdds'. -/
def decAddsUptoCard : Claim7 := { stood := { row := decAddsUptoRow, standIns := [], harness := (true, "2bf8501facfaf03854a4f07ca71da2acdc182553b4ab1e5061d6595639656f6e"), looks := false }, kinds := [], alts := [], laidByText := true, laidKinds := [.data, .pinned], laidTests := true, laidLooks := .later }
def DecAddsUptoCardSaid : Prop := Claim7.holds Tryd.pinned (.plain (OpenSpec.upto decAddsSpec)) decAddsUptoCard

/-- THE SECOND FORM's CARD OF 'triadlaw13.DecDivs'. -/
def decDivsUptoCard : Claim7 := { stood := { row := decDivsUptoRow, standIns := [], harness := (true, "2bf8501facfaf03854a4f07ca71da2acdc182553b4ab1e5061d6595639656f6e"), looks := false }, kinds := [], alts := [], laidByText := true, laidKinds := [.data, .pinned], laidTests := true, laidLooks := .later }
def DecDivsUptoCardSaid : Prop := Claim7.holds Tryd.pinned (.plain (OpenSpec.upto decDivsSpec)) decDivsUptoCard
end Rows
end Go.Proofs.YtpnjbagpplodjaaDoor
