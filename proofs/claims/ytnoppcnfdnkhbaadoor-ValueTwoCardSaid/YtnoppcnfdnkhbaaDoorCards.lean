/-
  DERIVED. GIVEN WITH THE SEED: THE CARDS: each row of YtnoppcnfdnkhbaaDoorRows.lean that lists a variable, with what it lists TIED to the program's text (the seventh form; the later family's looks); each row that meets fmt, with fmt's text TOLD by the authors' own Lean function (tested against real Go, not proved from fmt's source: count such statements apart). THE CARD IS WHAT COUNTS. Prove the row's statement (the work); the ties are given (YtnoppcnfdnkhbaaDoorTie.lean); close each card by the builder's one call (the guide's Derived/Test/ToyasCard.lean, 'card_holds'). Laid BY PROGRAM, IN A SANDBOX (cutbox-door.mjs). By AI agents, Wed Nov 11 2026. No macro, syntax, notation, axiom, sorry.
-/
import Derived.Test.YtnoppcnfdnkhbaaDoorRows
import GoSem.ClaimSeven
namespace Go.Proofs.YtnoppcnfdnkhbaaDoor
namespace Rows

/-- THE TIED CARD OF 'triadlaw15.ValueTwo'. -/
def valueTwoCard : Claim7 := { stood := { row := valueTwoRow, standIns := [], harness := (true, "279a78bdbb69ae8294cbf3c220d4e490f559a7a07e61d72745daf195b67cb076"), looks := false }, kinds := [], alts := [], laidByText := true, laidKinds := [.data, .pinned], laidTests := true, laidLooks := .later }
def ValueTwoCardSaid : Prop := Claim7.holds Tryd.pinned (.plain (OpenSpec.ofChange valueTwoSpec)) valueTwoCard

/-- THE SECOND FORM's CARD OF 'triadlaw15.ValueTwo'. -/
def valueTwoUptoCard : Claim7 := { stood := { row := valueTwoUptoRow, standIns := [], harness := (true, "279a78bdbb69ae8294cbf3c220d4e490f559a7a07e61d72745daf195b67cb076"), looks := false }, kinds := [], alts := [], laidByText := true, laidKinds := [.data, .pinned], laidTests := true, laidLooks := .later }
def ValueTwoUptoCardSaid : Prop := Claim7.holds Tryd.pinned (.plain (OpenSpec.upto valueTwoSpec)) valueTwoUptoCard
end Rows
end Go.Proofs.YtnoppcnfdnkhbaaDoor
