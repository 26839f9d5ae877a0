/- Runs of ParseChanges. -/
import Derived.Test.YtcjjmgggjigjiaaGreatDoorParRuns
namespace Go.Proofs.YtcjjmgggjigjiaaGreatDoor
open Go.RowKit Go.Am
set_option maxRecDepth 100000
theorem change_run0 : changeRun 0 = true := by kernel_rfl
theorem change_run1 : changeRun 1 = true := by kernel_rfl
theorem change_run2 : changeRun 2 = true := by kernel_rfl
theorem change_run3 : changeRun 3 = true := by kernel_rfl
theorem change_run4 : changeRun 4 = true := by kernel_rfl
theorem change_run5 : changeRun 5 = true := by kernel_rfl
theorem change_run6 : changeRun 6 = true := by kernel_rfl
theorem change_run7 : changeRun 7 = true := by kernel_rfl
theorem change_run8 : changeRun 8 = true := by kernel_rfl
end Go.Proofs.YtcjjmgggjigjiaaGreatDoor
