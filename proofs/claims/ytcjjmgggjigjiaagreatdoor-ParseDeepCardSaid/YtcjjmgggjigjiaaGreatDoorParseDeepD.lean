/- Runs of ParseDeep, part 4. -/
import Derived.Test.YtcjjmgggjigjiaaGreatDoorParseDeepRuns
namespace Go.Proofs.YtcjjmgggjigjiaaGreatDoor
open Go.RowKit Go.Am
set_option maxRecDepth 100000
theorem parseDeep_run_0_3_0 : ((List.range 3).map (Nat.add 0)).all (parseDeepRun 0 3) = true := by kernel_rfl
theorem parseDeep_run_0_11_0 : ((List.range 3).map (Nat.add 0)).all (parseDeepRun 0 11) = true := by kernel_rfl
theorem parseDeep_run_1_7_0 : ((List.range 3).map (Nat.add 0)).all (parseDeepRun 1 7) = true := by kernel_rfl
theorem parseDeep_run_2_3_0 : ((List.range 3).map (Nat.add 0)).all (parseDeepRun 2 3) = true := by kernel_rfl
theorem parseDeep_run_2_11_0 : ((List.range 3).map (Nat.add 0)).all (parseDeepRun 2 11) = true := by kernel_rfl
theorem parseDeep_run_3_7_0 : ((List.range 3).map (Nat.add 0)).all (parseDeepRun 3 7) = true := by kernel_rfl
theorem parseDeep_run_4_3_0 : ((List.range 3).map (Nat.add 0)).all (parseDeepRun 4 3) = true := by kernel_rfl
theorem parseDeep_run_4_11_0 : ((List.range 3).map (Nat.add 0)).all (parseDeepRun 4 11) = true := by kernel_rfl
theorem parseDeep_run_5_7_0 : ((List.range 3).map (Nat.add 0)).all (parseDeepRun 5 7) = true := by kernel_rfl
theorem parseDeep_run_6_3_0 : ((List.range 3).map (Nat.add 0)).all (parseDeepRun 6 3) = true := by kernel_rfl
theorem parseDeep_run_6_11_0 : ((List.range 3).map (Nat.add 0)).all (parseDeepRun 6 11) = true := by kernel_rfl
theorem parseDeep_run_7_7_0 : ((List.range 3).map (Nat.add 0)).all (parseDeepRun 7 7) = true := by kernel_rfl
theorem parseDeep_run_8_3_0 : ((List.range 3).map (Nat.add 0)).all (parseDeepRun 8 3) = true := by kernel_rfl
theorem parseDeep_run_8_11_0 : ((List.range 3).map (Nat.add 0)).all (parseDeepRun 8 11) = true := by kernel_rfl
theorem parseDeep_run_9_7_0 : ((List.range 3).map (Nat.add 0)).all (parseDeepRun 9 7) = true := by kernel_rfl
theorem parseDeep_run_10_3_0 : ((List.range 3).map (Nat.add 0)).all (parseDeepRun 10 3) = true := by kernel_rfl
theorem parseDeep_run_10_11_0 : ((List.range 3).map (Nat.add 0)).all (parseDeepRun 10 11) = true := by kernel_rfl
theorem parseDeep_run_11_7_0 : ((List.range 3).map (Nat.add 0)).all (parseDeepRun 11 7) = true := by kernel_rfl
end Go.Proofs.YtcjjmgggjigjiaaGreatDoor
