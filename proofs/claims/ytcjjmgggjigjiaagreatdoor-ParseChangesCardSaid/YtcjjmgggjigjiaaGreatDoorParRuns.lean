/- The runs of the seat's laws. -/
import Derived.Test.YtcjjmgggjigjiaaGreatDoorParHints
namespace Go.Proofs.YtcjjmgggjigjiaaGreatDoor
open Go.RowKit Go.Am
noncomputable def knownRun (x : Nat) : Bool := yes (run Tryz.prog (hints masks (moreL [⟨0, 29, x⟩])) 1000 3 (ghosts Tryz.prog 1) (mem0 Tryz.prog 1))
noncomputable def changeRun (x : Nat) : Bool := yes (run Tryz.prog (hints masks (moreL [⟨0, 17, x⟩])) 1000 5 (ghosts Tryz.prog 1) (mem0 Tryz.prog 1))
end Go.Proofs.YtcjjmgggjigjiaaGreatDoor
