/- Runs of ParseDeep, part 5. -/
import Derived.Test.YtcjjmgggjigjiaaGreatDoorParseDeepRuns
namespace Go.Proofs.YtcjjmgggjigjiaaGreatDoor
open Go.RowKit Go.Am
set_option maxRecDepth 100000
theorem parseDeep_run_0_4_0 : ((List.range 3).map (Nat.add 0)).all (parseDeepRun 0 4) = true := by kernel_rfl
theorem parseDeep_run_1_0_0 : ((List.range 3).map (Nat.add 0)).all (parseDeepRun 1 0) = true := by kernel_rfl
theorem parseDeep_run_1_8_0 : ((List.range 3).map (Nat.add 0)).all (parseDeepRun 1 8) = true := by kernel_rfl
theorem parseDeep_run_2_4_0 : ((List.range 3).map (Nat.add 0)).all (parseDeepRun 2 4) = true := by kernel_rfl
theorem parseDeep_run_3_0_0 : ((List.range 3).map (Nat.add 0)).all (parseDeepRun 3 0) = true := by kernel_rfl
theorem parseDeep_run_3_8_0 : ((List.range 3).map (Nat.add 0)).all (parseDeepRun 3 8) = true := by kernel_rfl
theorem parseDeep_run_4_4_0 : ((List.range 3).map (Nat.add 0)).all (parseDeepRun 4 4) = true := by kernel_rfl
theorem parseDeep_run_5_0_0 : ((List.range 3).map (Nat.add 0)).all (parseDeepRun 5 0) = true := by kernel_rfl
theorem parseDeep_run_5_8_0 : ((List.range 3).map (Nat.add 0)).all (parseDeepRun 5 8) = true := by kernel_rfl
theorem parseDeep_run_6_4_0 : ((List.range 3).map (Nat.add 0)).all (parseDeepRun 6 4) = true := by kernel_rfl
theorem parseDeep_run_7_0_0 : ((List.range 3).map (Nat.add 0)).all (parseDeepRun 7 0) = true := by kernel_rfl
theorem parseDeep_run_7_8_0 : ((List.range 3).map (Nat.add 0)).all (parseDeepRun 7 8) = true := by kernel_rfl
theorem parseDeep_run_8_4_0 : ((List.range 3).map (Nat.add 0)).all (parseDeepRun 8 4) = true := by kernel_rfl
theorem parseDeep_run_9_0_0 : ((List.range 3).map (Nat.add 0)).all (parseDeepRun 9 0) = true := by kernel_rfl
theorem parseDeep_run_9_8_0 : ((List.range 3).map (Nat.add 0)).all (parseDeepRun 9 8) = true := by kernel_rfl
theorem parseDeep_run_10_4_0 : ((List.range 3).map (Nat.add 0)).all (parseDeepRun 10 4) = true := by kernel_rfl
theorem parseDeep_run_11_0_0 : ((List.range 3).map (Nat.add 0)).all (parseDeepRun 11 0) = true := by kernel_rfl
theorem parseDeep_run_11_8_0 : ((List.range 3).map (Nat.add 0)).all (parseDeepRun 11 8) = true := by kernel_rfl
end Go.Proofs.YtcjjmgggjigjiaaGreatDoor
