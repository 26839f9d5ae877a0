/- Runs of ParseDeep, part 8. -/
import Derived.Test.YtcjjmgggjigjiaaGreatDoorParseDeepRuns
namespace Go.Proofs.YtcjjmgggjigjiaaGreatDoor
open Go.RowKit Go.Am
set_option maxRecDepth 100000
theorem parseDeep_run_0_7_0 : ((List.range 3).map (Nat.add 0)).all (parseDeepRun 0 7) = true := by kernel_rfl
theorem parseDeep_run_1_3_0 : ((List.range 3).map (Nat.add 0)).all (parseDeepRun 1 3) = true := by kernel_rfl
theorem parseDeep_run_1_11_0 : ((List.range 3).map (Nat.add 0)).all (parseDeepRun 1 11) = true := by kernel_rfl
theorem parseDeep_run_2_7_0 : ((List.range 3).map (Nat.add 0)).all (parseDeepRun 2 7) = true := by kernel_rfl
theorem parseDeep_run_3_3_0 : ((List.range 3).map (Nat.add 0)).all (parseDeepRun 3 3) = true := by kernel_rfl
theorem parseDeep_run_3_11_0 : ((List.range 3).map (Nat.add 0)).all (parseDeepRun 3 11) = true := by kernel_rfl
theorem parseDeep_run_4_7_0 : ((List.range 3).map (Nat.add 0)).all (parseDeepRun 4 7) = true := by kernel_rfl
theorem parseDeep_run_5_3_0 : ((List.range 3).map (Nat.add 0)).all (parseDeepRun 5 3) = true := by kernel_rfl
theorem parseDeep_run_5_11_0 : ((List.range 3).map (Nat.add 0)).all (parseDeepRun 5 11) = true := by kernel_rfl
theorem parseDeep_run_6_7_0 : ((List.range 3).map (Nat.add 0)).all (parseDeepRun 6 7) = true := by kernel_rfl
theorem parseDeep_run_7_3_0 : ((List.range 3).map (Nat.add 0)).all (parseDeepRun 7 3) = true := by kernel_rfl
theorem parseDeep_run_7_11_0 : ((List.range 3).map (Nat.add 0)).all (parseDeepRun 7 11) = true := by kernel_rfl
theorem parseDeep_run_8_7_0 : ((List.range 3).map (Nat.add 0)).all (parseDeepRun 8 7) = true := by kernel_rfl
theorem parseDeep_run_9_3_0 : ((List.range 3).map (Nat.add 0)).all (parseDeepRun 9 3) = true := by kernel_rfl
theorem parseDeep_run_9_11_0 : ((List.range 3).map (Nat.add 0)).all (parseDeepRun 9 11) = true := by kernel_rfl
theorem parseDeep_run_10_7_0 : ((List.range 3).map (Nat.add 0)).all (parseDeepRun 10 7) = true := by kernel_rfl
theorem parseDeep_run_11_3_0 : ((List.range 3).map (Nat.add 0)).all (parseDeepRun 11 3) = true := by kernel_rfl
theorem parseDeep_run_11_11_0 : ((List.range 3).map (Nat.add 0)).all (parseDeepRun 11 11) = true := by kernel_rfl
end Go.Proofs.YtcjjmgggjigjiaaGreatDoor
