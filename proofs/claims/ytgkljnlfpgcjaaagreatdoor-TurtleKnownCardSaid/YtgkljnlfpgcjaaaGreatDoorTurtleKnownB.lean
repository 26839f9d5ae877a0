/- Runs of TurtleKnown, part 2. -/
import Derived.Test.YtgkljnlfpgcjaaaGreatDoorTurtleKnownRuns
namespace Go.Proofs.YtgkljnlfpgcjaaaGreatDoor
open Go.RowKit Go.Am
set_option maxRecDepth 100000
theorem turtleKnown_run_4 : ((List.range 4).map (Nat.add 4)).all (turtleKnownRun ) = true := by kernel_rfl
theorem turtleKnown_run_16 : ((List.range 4).map (Nat.add 16)).all (turtleKnownRun ) = true := by kernel_rfl
end Go.Proofs.YtgkljnlfpgcjaaaGreatDoor
