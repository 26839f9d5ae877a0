/- Runs of ParseChanges. -/
import Derived.Test.YtcjjmgggjigjiaaGreatDoorParRuns
namespace Go.Proofs.YtcjjmgggjigjiaaGreatDoor
open Go.RowKit Go.Am
set_option maxRecDepth 100000
theorem change_run9 : changeRun 9 = true := by kernel_rfl
theorem change_run10 : changeRun 10 = true := by kernel_rfl
theorem change_run11 : changeRun 11 = true := by kernel_rfl
theorem change_run12 : changeRun 12 = true := by kernel_rfl
theorem change_run13 : changeRun 13 = true := by kernel_rfl
theorem change_run14 : changeRun 14 = true := by kernel_rfl
theorem change_run15 : changeRun 15 = true := by kernel_rfl
theorem change_run16 : changeRun 16 = true := by kernel_rfl
end Go.Proofs.YtcjjmgggjigjiaaGreatDoor
