/- Runs of ParseKnown. -/
import Derived.Test.YtcjjmgggjigjiaaGreatDoorParRuns
namespace Go.Proofs.YtcjjmgggjigjiaaGreatDoor
open Go.RowKit Go.Am
set_option maxRecDepth 100000
theorem known_run0 : knownRun 0 = true := by kernel_rfl
theorem known_run1 : knownRun 1 = true := by kernel_rfl
theorem known_run2 : knownRun 2 = true := by kernel_rfl
theorem known_run3 : knownRun 3 = true := by kernel_rfl
theorem known_run4 : knownRun 4 = true := by kernel_rfl
theorem known_run5 : knownRun 5 = true := by kernel_rfl
theorem known_run6 : knownRun 6 = true := by kernel_rfl
theorem known_run7 : knownRun 7 = true := by kernel_rfl
theorem known_run8 : knownRun 8 = true := by kernel_rfl
theorem known_run9 : knownRun 9 = true := by kernel_rfl
theorem known_run10 : knownRun 10 = true := by kernel_rfl
theorem known_run11 : knownRun 11 = true := by kernel_rfl
theorem known_run12 : knownRun 12 = true := by kernel_rfl
theorem known_run13 : knownRun 13 = true := by kernel_rfl
theorem known_run14 : knownRun 14 = true := by kernel_rfl
end Go.Proofs.YtcjjmgggjigjiaaGreatDoor
