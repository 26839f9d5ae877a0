/- Runs of ParseDeep, part 2. -/
import Derived.Test.YtcjjmgggjigjiaaGreatDoorParseDeepRuns
namespace Go.Proofs.YtcjjmgggjigjiaaGreatDoor
open Go.RowKit Go.Am
set_option maxRecDepth 100000
theorem parseDeep_run_0_1_0 : ((List.range 3).map (Nat.add 0)).all (parseDeepRun 0 1) = true := by kernel_rfl
theorem parseDeep_run_0_9_0 : ((List.range 3).map (Nat.add 0)).all (parseDeepRun 0 9) = true := by kernel_rfl
theorem parseDeep_run_1_5_0 : ((List.range 3).map (Nat.add 0)).all (parseDeepRun 1 5) = true := by kernel_rfl
theorem parseDeep_run_2_1_0 : ((List.range 3).map (Nat.add 0)).all (parseDeepRun 2 1) = true := by kernel_rfl
theorem parseDeep_run_2_9_0 : ((List.range 3).map (Nat.add 0)).all (parseDeepRun 2 9) = true := by kernel_rfl
theorem parseDeep_run_3_5_0 : ((List.range 3).map (Nat.add 0)).all (parseDeepRun 3 5) = true := by kernel_rfl
theorem parseDeep_run_4_1_0 : ((List.range 3).map (Nat.add 0)).all (parseDeepRun 4 1) = true := by kernel_rfl
theorem parseDeep_run_4_9_0 : ((List.range 3).map (Nat.add 0)).all (parseDeepRun 4 9) = true := by kernel_rfl
theorem parseDeep_run_5_5_0 : ((List.range 3).map (Nat.add 0)).all (parseDeepRun 5 5) = true := by kernel_rfl
theorem parseDeep_run_6_1_0 : ((List.range 3).map (Nat.add 0)).all (parseDeepRun 6 1) = true := by kernel_rfl
theorem parseDeep_run_6_9_0 : ((List.range 3).map (Nat.add 0)).all (parseDeepRun 6 9) = true := by kernel_rfl
theorem parseDeep_run_7_5_0 : ((List.range 3).map (Nat.add 0)).all (parseDeepRun 7 5) = true := by kernel_rfl
theorem parseDeep_run_8_1_0 : ((List.range 3).map (Nat.add 0)).all (parseDeepRun 8 1) = true := by kernel_rfl
theorem parseDeep_run_8_9_0 : ((List.range 3).map (Nat.add 0)).all (parseDeepRun 8 9) = true := by kernel_rfl
theorem parseDeep_run_9_5_0 : ((List.range 3).map (Nat.add 0)).all (parseDeepRun 9 5) = true := by kernel_rfl
theorem parseDeep_run_10_1_0 : ((List.range 3).map (Nat.add 0)).all (parseDeepRun 10 1) = true := by kernel_rfl
theorem parseDeep_run_10_9_0 : ((List.range 3).map (Nat.add 0)).all (parseDeepRun 10 9) = true := by kernel_rfl
theorem parseDeep_run_11_5_0 : ((List.range 3).map (Nat.add 0)).all (parseDeepRun 11 5) = true := by kernel_rfl
end Go.Proofs.YtcjjmgggjigjiaaGreatDoor
