/- Runs of ParseDeep, part 3. -/
import Derived.Test.YtcjjmgggjigjiaaGreatDoorParseDeepRuns
namespace Go.Proofs.YtcjjmgggjigjiaaGreatDoor
open Go.RowKit Go.Am
set_option maxRecDepth 100000
theorem parseDeep_run_0_2_0 : ((List.range 3).map (Nat.add 0)).all (parseDeepRun 0 2) = true := by kernel_rfl
theorem parseDeep_run_0_10_0 : ((List.range 3).map (Nat.add 0)).all (parseDeepRun 0 10) = true := by kernel_rfl
theorem parseDeep_run_1_6_0 : ((List.range 3).map (Nat.add 0)).all (parseDeepRun 1 6) = true := by kernel_rfl
theorem parseDeep_run_2_2_0 : ((List.range 3).map (Nat.add 0)).all (parseDeepRun 2 2) = true := by kernel_rfl
theorem parseDeep_run_2_10_0 : ((List.range 3).map (Nat.add 0)).all (parseDeepRun 2 10) = true := by kernel_rfl
theorem parseDeep_run_3_6_0 : ((List.range 3).map (Nat.add 0)).all (parseDeepRun 3 6) = true := by kernel_rfl
theorem parseDeep_run_4_2_0 : ((List.range 3).map (Nat.add 0)).all (parseDeepRun 4 2) = true := by kernel_rfl
theorem parseDeep_run_4_10_0 : ((List.range 3).map (Nat.add 0)).all (parseDeepRun 4 10) = true := by kernel_rfl
theorem parseDeep_run_5_6_0 : ((List.range 3).map (Nat.add 0)).all (parseDeepRun 5 6) = true := by kernel_rfl
theorem parseDeep_run_6_2_0 : ((List.range 3).map (Nat.add 0)).all (parseDeepRun 6 2) = true := by kernel_rfl
theorem parseDeep_run_6_10_0 : ((List.range 3).map (Nat.add 0)).all (parseDeepRun 6 10) = true := by kernel_rfl
theorem parseDeep_run_7_6_0 : ((List.range 3).map (Nat.add 0)).all (parseDeepRun 7 6) = true := by kernel_rfl
theorem parseDeep_run_8_2_0 : ((List.range 3).map (Nat.add 0)).all (parseDeepRun 8 2) = true := by kernel_rfl
theorem parseDeep_run_8_10_0 : ((List.range 3).map (Nat.add 0)).all (parseDeepRun 8 10) = true := by kernel_rfl
theorem parseDeep_run_9_6_0 : ((List.range 3).map (Nat.add 0)).all (parseDeepRun 9 6) = true := by kernel_rfl
theorem parseDeep_run_10_2_0 : ((List.range 3).map (Nat.add 0)).all (parseDeepRun 10 2) = true := by kernel_rfl
theorem parseDeep_run_10_10_0 : ((List.range 3).map (Nat.add 0)).all (parseDeepRun 10 10) = true := by kernel_rfl
theorem parseDeep_run_11_6_0 : ((List.range 3).map (Nat.add 0)).all (parseDeepRun 11 6) = true := by kernel_rfl
end Go.Proofs.YtcjjmgggjigjiaaGreatDoor
