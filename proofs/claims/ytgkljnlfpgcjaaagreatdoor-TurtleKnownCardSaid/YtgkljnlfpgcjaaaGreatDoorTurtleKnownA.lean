/- Runs of TurtleKnown, part 1. -/
import Derived.Test.YtgkljnlfpgcjaaaGreatDoorTurtleKnownRuns
namespace Go.Proofs.YtgkljnlfpgcjaaaGreatDoor
open Go.RowKit Go.Am
set_option maxRecDepth 100000
theorem turtleKnown_run_0 : ((List.range 4).map (Nat.add 0)).all (turtleKnownRun ) = true := by kernel_rfl
theorem turtleKnown_run_12 : ((List.range 4).map (Nat.add 12)).all (turtleKnownRun ) = true := by kernel_rfl
end Go.Proofs.YtgkljnlfpgcjaaaGreatDoor
