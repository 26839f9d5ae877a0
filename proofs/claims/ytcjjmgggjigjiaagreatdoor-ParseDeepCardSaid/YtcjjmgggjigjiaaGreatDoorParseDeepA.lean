/- Runs of ParseDeep, part 1. -/
import Derived.Test.YtcjjmgggjigjiaaGreatDoorParseDeepRuns
namespace Go.Proofs.YtcjjmgggjigjiaaGreatDoor
open Go.RowKit Go.Am
set_option maxRecDepth 100000
theorem parseDeep_run_0_0_0 : ((List.range 3).map (Nat.add 0)).all (parseDeepRun 0 0) = true := by kernel_rfl
theorem parseDeep_run_0_8_0 : ((List.range 3).map (Nat.add 0)).all (parseDeepRun 0 8) = true := by kernel_rfl
theorem parseDeep_run_1_4_0 : ((List.range 3).map (Nat.add 0)).all (parseDeepRun 1 4) = true := by kernel_rfl
theorem parseDeep_run_2_0_0 : ((List.range 3).map (Nat.add 0)).all (parseDeepRun 2 0) = true := by kernel_rfl
theorem parseDeep_run_2_8_0 : ((List.range 3).map (Nat.add 0)).all (parseDeepRun 2 8) = true := by kernel_rfl
theorem parseDeep_run_3_4_0 : ((List.range 3).map (Nat.add 0)).all (parseDeepRun 3 4) = true := by kernel_rfl
theorem parseDeep_run_4_0_0 : ((List.range 3).map (Nat.add 0)).all (parseDeepRun 4 0) = true := by kernel_rfl
theorem parseDeep_run_4_8_0 : ((List.range 3).map (Nat.add 0)).all (parseDeepRun 4 8) = true := by kernel_rfl
theorem parseDeep_run_5_4_0 : ((List.range 3).map (Nat.add 0)).all (parseDeepRun 5 4) = true := by kernel_rfl
theorem parseDeep_run_6_0_0 : ((List.range 3).map (Nat.add 0)).all (parseDeepRun 6 0) = true := by kernel_rfl
theorem parseDeep_run_6_8_0 : ((List.range 3).map (Nat.add 0)).all (parseDeepRun 6 8) = true := by kernel_rfl
theorem parseDeep_run_7_4_0 : ((List.range 3).map (Nat.add 0)).all (parseDeepRun 7 4) = true := by kernel_rfl
theorem parseDeep_run_8_0_0 : ((List.range 3).map (Nat.add 0)).all (parseDeepRun 8 0) = true := by kernel_rfl
theorem parseDeep_run_8_8_0 : ((List.range 3).map (Nat.add 0)).all (parseDeepRun 8 8) = true := by kernel_rfl
theorem parseDeep_run_9_4_0 : ((List.range 3).map (Nat.add 0)).all (parseDeepRun 9 4) = true := by kernel_rfl
theorem parseDeep_run_10_0_0 : ((List.range 3).map (Nat.add 0)).all (parseDeepRun 10 0) = true := by kernel_rfl
theorem parseDeep_run_10_8_0 : ((List.range 3).map (Nat.add 0)).all (parseDeepRun 10 8) = true := by kernel_rfl
theorem parseDeep_run_11_4_0 : ((List.range 3).map (Nat.add 0)).all (parseDeepRun 11 4) = true := by kernel_rfl
end Go.Proofs.YtcjjmgggjigjiaaGreatDoor
