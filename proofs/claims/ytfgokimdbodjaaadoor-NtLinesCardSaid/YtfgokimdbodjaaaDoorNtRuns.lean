/- The runs of NtLines: as many good lines, lines behind, and a bad line of such a kind. -/
import Derived.Test.YtfgokimdbodjaaaDoorNtBase
namespace Go.Proofs.YtfgokimdbodjaaaDoor
open Go.RowKit Go.Am
set_option maxRecDepth 100000
noncomputable def linesRun (x z y : Nat) : Bool := yes (run Tryd.prog (picks [⟨0, 20, x⟩, ⟨1, 5, y⟩, ⟨2, 5, z⟩]) 1000 4 (ghosts Tryd.prog 3) (mem0 Tryd.prog 3))
theorem cut_all5 {α : Type} {p : α → Bool} (k : Nat) (l : List α) (h1 : (l.take k).all p = true) (h2 : (l.drop k).all p = true) : l.all p = true := by
  rw [← List.take_append_drop k l, List.all_append, h1, h2]; rfl
end Go.Proofs.YtfgokimdbodjaaaDoor
