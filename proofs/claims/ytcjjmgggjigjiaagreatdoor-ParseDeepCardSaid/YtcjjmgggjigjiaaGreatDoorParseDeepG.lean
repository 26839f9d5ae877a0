/- Runs of ParseDeep, part 7. -/
import Derived.Test.YtcjjmgggjigjiaaGreatDoorParseDeepRuns
namespace Go.Proofs.YtcjjmgggjigjiaaGreatDoor
open Go.RowKit Go.Am
set_option maxRecDepth 100000
theorem parseDeep_run_0_6_0 : ((List.range 3).map (Nat.add 0)).all (parseDeepRun 0 6) = true := by kernel_rfl
theorem parseDeep_run_1_2_0 : ((List.range 3).map (Nat.add 0)).all (parseDeepRun 1 2) = true := by kernel_rfl
theorem parseDeep_run_1_10_0 : ((List.range 3).map (Nat.add 0)).all (parseDeepRun 1 10) = true := by kernel_rfl
theorem parseDeep_run_2_6_0 : ((List.range 3).map (Nat.add 0)).all (parseDeepRun 2 6) = true := by kernel_rfl
theorem parseDeep_run_3_2_0 : ((List.range 3).map (Nat.add 0)).all (parseDeepRun 3 2) = true := by kernel_rfl
theorem parseDeep_run_3_10_0 : ((List.range 3).map (Nat.add 0)).all (parseDeepRun 3 10) = true := by kernel_rfl
theorem parseDeep_run_4_6_0 : ((List.range 3).map (Nat.add 0)).all (parseDeepRun 4 6) = true := by kernel_rfl
theorem parseDeep_run_5_2_0 : ((List.range 3).map (Nat.add 0)).all (parseDeepRun 5 2) = true := by kernel_rfl
theorem parseDeep_run_5_10_0 : ((List.range 3).map (Nat.add 0)).all (parseDeepRun 5 10) = true := by kernel_rfl
theorem parseDeep_run_6_6_0 : ((List.range 3).map (Nat.add 0)).all (parseDeepRun 6 6) = true := by kernel_rfl
theorem parseDeep_run_7_2_0 : ((List.range 3).map (Nat.add 0)).all (parseDeepRun 7 2) = true := by kernel_rfl
theorem parseDeep_run_7_10_0 : ((List.range 3).map (Nat.add 0)).all (parseDeepRun 7 10) = true := by kernel_rfl
theorem parseDeep_run_8_6_0 : ((List.range 3).map (Nat.add 0)).all (parseDeepRun 8 6) = true := by kernel_rfl
theorem parseDeep_run_9_2_0 : ((List.range 3).map (Nat.add 0)).all (parseDeepRun 9 2) = true := by kernel_rfl
theorem parseDeep_run_9_10_0 : ((List.range 3).map (Nat.add 0)).all (parseDeepRun 9 10) = true := by kernel_rfl
theorem parseDeep_run_10_6_0 : ((List.range 3).map (Nat.add 0)).all (parseDeepRun 10 6) = true := by kernel_rfl
theorem parseDeep_run_11_2_0 : ((List.range 3).map (Nat.add 0)).all (parseDeepRun 11 2) = true := by kernel_rfl
theorem parseDeep_run_11_10_0 : ((List.range 3).map (Nat.add 0)).all (parseDeepRun 11 10) = true := by kernel_rfl
end Go.Proofs.YtcjjmgggjigjiaaGreatDoor
