/- Runs of ParseDeep, part 6. -/
import Derived.Test.YtcjjmgggjigjiaaGreatDoorParseDeepRuns
namespace Go.Proofs.YtcjjmgggjigjiaaGreatDoor
open Go.RowKit Go.Am
set_option maxRecDepth 100000
theorem parseDeep_run_0_5_0 : ((List.range 3).map (Nat.add 0)).all (parseDeepRun 0 5) = true := by kernel_rfl
theorem parseDeep_run_1_1_0 : ((List.range 3).map (Nat.add 0)).all (parseDeepRun 1 1) = true := by kernel_rfl
theorem parseDeep_run_1_9_0 : ((List.range 3).map (Nat.add 0)).all (parseDeepRun 1 9) = true := by kernel_rfl
theorem parseDeep_run_2_5_0 : ((List.range 3).map (Nat.add 0)).all (parseDeepRun 2 5) = true := by kernel_rfl
theorem parseDeep_run_3_1_0 : ((List.range 3).map (Nat.add 0)).all (parseDeepRun 3 1) = true := by kernel_rfl
theorem parseDeep_run_3_9_0 : ((List.range 3).map (Nat.add 0)).all (parseDeepRun 3 9) = true := by kernel_rfl
theorem parseDeep_run_4_5_0 : ((List.range 3).map (Nat.add 0)).all (parseDeepRun 4 5) = true := by kernel_rfl
theorem parseDeep_run_5_1_0 : ((List.range 3).map (Nat.add 0)).all (parseDeepRun 5 1) = true := by kernel_rfl
theorem parseDeep_run_5_9_0 : ((List.range 3).map (Nat.add 0)).all (parseDeepRun 5 9) = true := by kernel_rfl
theorem parseDeep_run_6_5_0 : ((List.range 3).map (Nat.add 0)).all (parseDeepRun 6 5) = true := by kernel_rfl
theorem parseDeep_run_7_1_0 : ((List.range 3).map (Nat.add 0)).all (parseDeepRun 7 1) = true := by kernel_rfl
theorem parseDeep_run_7_9_0 : ((List.range 3).map (Nat.add 0)).all (parseDeepRun 7 9) = true := by kernel_rfl
theorem parseDeep_run_8_5_0 : ((List.range 3).map (Nat.add 0)).all (parseDeepRun 8 5) = true := by kernel_rfl
theorem parseDeep_run_9_1_0 : ((List.range 3).map (Nat.add 0)).all (parseDeepRun 9 1) = true := by kernel_rfl
theorem parseDeep_run_9_9_0 : ((List.range 3).map (Nat.add 0)).all (parseDeepRun 9 9) = true := by kernel_rfl
theorem parseDeep_run_10_5_0 : ((List.range 3).map (Nat.add 0)).all (parseDeepRun 10 5) = true := by kernel_rfl
theorem parseDeep_run_11_1_0 : ((List.range 3).map (Nat.add 0)).all (parseDeepRun 11 1) = true := by kernel_rfl
theorem parseDeep_run_11_9_0 : ((List.range 3).map (Nat.add 0)).all (parseDeepRun 11 9) = true := by kernel_rfl
end Go.Proofs.YtcjjmgggjigjiaaGreatDoor
