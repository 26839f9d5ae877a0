/- Runs of ParseKnown. -/
import Derived.Test.YtcjjmgggjigjiaaGreatDoorParRuns
namespace Go.Proofs.YtcjjmgggjigjiaaGreatDoor
open Go.RowKit Go.Am
set_option maxRecDepth 100000
theorem known_run15 : knownRun 15 = true := by kernel_rfl
theorem known_run16 : knownRun 16 = true := by kernel_rfl
theorem known_run17 : knownRun 17 = true := by kernel_rfl
theorem known_run18 : knownRun 18 = true := by kernel_rfl
theorem known_run19 : knownRun 19 = true := by kernel_rfl
theorem known_run20 : knownRun 20 = true := by kernel_rfl
theorem known_run21 : knownRun 21 = true := by kernel_rfl
theorem known_run22 : knownRun 22 = true := by kernel_rfl
theorem known_run23 : knownRun 23 = true := by kernel_rfl
theorem known_run24 : knownRun 24 = true := by kernel_rfl
theorem known_run25 : knownRun 25 = true := by kernel_rfl
theorem known_run26 : knownRun 26 = true := by kernel_rfl
theorem known_run27 : knownRun 27 = true := by kernel_rfl
theorem known_run28 : knownRun 28 = true := by kernel_rfl
end Go.Proofs.YtcjjmgggjigjiaaGreatDoor
