/-
  DERIVED. GIVEN WITH THE SEED: THE CARDS: each row of YtfgokimdbodjaaaDoorRows.lean that lists a variable, with what it lists TIED to the program's text (the seventh form; the later family's looks); each row that meets fmt, with fmt's text TOLD by the authors' own Lean function (tested against real Go, not proved from fmt's source: count such statements apart). THE CARD IS WHAT COUNTS. Prove the row's statement (the work); the ties are given (YtfgokimdbodjaaaDoorTie.lean); close each card by the builder's one call (the guide's Derived/Test/ToyasCard.lean, 'card_holds'). Laid BY PROGRAM, IN A SANDBOX (cutbox-door.mjs). By AI agents, Wed Nov 11 2026. No macro, syntax, notation, axiom, sorry.
-/
import Derived.Test.YtfgokimdbodjaaaDoorRows
import GoSem.ClaimSeven
namespace Go.Proofs.YtfgokimdbodjaaaDoor
namespace Rows

/-- THE TIED CARD OF 'triadlaw11.LexTwo'. -/
def lexTwoCard : Claim7 := { stood := { row := lexTwoRow, standIns := [], harness := (true, "2bcb87b5218921a9def3ca41b6bce6a4f643da416ecea8b8ddc7f9ac0d70ac07"), looks := false }, kinds := [], alts := [], laidByText := true, laidKinds := [.data, .pinned], laidTests := true, laidLooks := .later }
def LexTwoCardSaid : Prop := Claim7.holds Tryd.pinned (.plain (OpenSpec.ofChange lexTwoSpec)) lexTwoCard

/-- THE TIED CARD OF 'triadlaw9.NtLines'. -/
def ntLinesCard : Claim7 := { stood := { row := ntLinesRow, standIns := [], harness := (true, "2bcb87b5218921a9def3ca41b6bce6a4f643da416ecea8b8ddc7f9ac0d70ac07"), looks := false }, kinds := [], alts := [], laidByText := true, laidKinds := [.data, .pinned], laidTests := true, laidLooks := .later }
def NtLinesCardSaid : Prop := Claim7.holds Tryd.pinned (.plain (OpenSpec.ofChange ntLinesSpec)) ntLinesCard

/-- THE SECOND FORM's CARD OF 'triadlaw11.LexTwo'. -/
def lexTwoUptoCard : Claim7 := { stood := { row := lexTwoUptoRow, standIns := [], harness := (true, "2bcb87b5218921a9def3ca41b6bce6a4f643da416ecea8b8ddc7f9ac0d70ac07"), looks := false }, kinds := [], alts := [], laidByText := true, laidKinds := [.data, .pinned], laidTests := true, laidLooks := .later }
def LexTwoUptoCardSaid : Prop := Claim7.holds Tryd.pinned (.plain (OpenSpec.upto lexTwoSpec)) lexTwoUptoCard

/-- THE SECOND FORM's CARD OF 'triadlaw9.NtLines'. -/
def ntLinesUptoCard : Claim7 := { stood := { row := ntLinesUptoRow, standIns := [], harness := (true, "2bcb87b5218921a9def3ca41b6bce6a4f643da416ecea8b8ddc7f9ac0d70ac07"), looks := false }, kinds := [], alts := [], laidByText := true, laidKinds := [.data, .pinned], laidTests := true, laidLooks := .later }
def NtLinesUptoCardSaid : Prop := Claim7.holds Tryd.pinned (.plain (OpenSpec.upto ntLinesSpec)) ntLinesUptoCard
end Rows
end Go.Proofs.YtfgokimdbodjaaaDoor
