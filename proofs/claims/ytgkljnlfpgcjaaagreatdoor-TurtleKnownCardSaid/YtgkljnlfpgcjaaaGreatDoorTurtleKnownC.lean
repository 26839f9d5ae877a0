/- Runs of TurtleKnown, part 3. -/
import Derived.Test.YtgkljnlfpgcjaaaGreatDoorTurtleKnownRuns
namespace Go.Proofs.YtgkljnlfpgcjaaaGreatDoor
open Go.RowKit Go.Am
set_option maxRecDepth 100000
theorem turtleKnown_run_8 : ((List.range 4).map (Nat.add 8)).all (turtleKnownRun ) = true := by kernel_rfl
theorem turtleKnown_run_20 : ((List.range 1).map (Nat.add 20)).all (turtleKnownRun ) = true := by kernel_rfl
end Go.Proofs.YtgkljnlfpgcjaaaGreatDoor
